/- Part of the proof of ShopPlans. -/
import Derived.Test.YtoiodfcefbapkaaGreatShopPlansI
set_option linter.unusedVariables false
set_option linter.unusedSimpArgs false
section
set_option maxRecDepth 8000
set_option maxHeartbeats 1000000
namespace Go.Sx
open Go.Proofs
open Go.Proofs.Tryz (prog)
attribute [-simp] tx_ia tx_ln tx_ix
def FZ (N : Nat) (z : Int) : Prop := z.natAbs < 10000 ^ N
theorem FZ.mono {N M : Nat} {z : Int} (h : FZ N z) (hNM : N ≤ M) : FZ M z := Nat.lt_of_lt_of_le h (Nat.pow_le_pow_right (by decide) hNM)
theorem FZ.neg {N : Nat} {z : Int} (h : FZ N z) : FZ N (-z) := by unfold FZ; rw [Int.natAbs_neg]; exact h
theorem FZ.le {N : Nat} {a b : Int} (h : FZ N a) (hle : b.natAbs ≤ a.natAbs) : FZ N b := Nat.lt_of_le_of_lt hle h
theorem FZ.add {N : Nat} {a b : Int} (ha : FZ N a) (hb : FZ N b) : FZ (N + 1) (a + b) := by
  unfold FZ at *
  have := Int.natAbs_add_le a b
  rw [Nat.pow_succ]
  omega
theorem FZ.mul {N M : Nat} {a b : Int} (ha : FZ N a) (hb : FZ M b) : FZ (N + M) (a * b) := by
  unfold FZ at *
  rw [Int.natAbs_mul, Nat.pow_add]
  exact Nat.mul_lt_mul'' ha hb
theorem FZ.small {N : Nat} {z : Int} (h : z.natAbs < 10000) (hN : 0 < N) : FZ N z := by
  have : (10000 : Nat) ^ 1 ≤ 10000 ^ N := Nat.pow_le_pow_right (by decide) hN
  unfold FZ
  omega
theorem FZ.i64 {z : Int} (h1 : -9223372036854775808 ≤ z) (h2 : z < 9223372036854775808) : FZ 5 z := by
  unfold FZ
  have : (10000 : Nat) ^ 5 = 100000000000000000000 := by decide
  omega
theorem FZ.len {N : Nat} {s : Bool} {ds : List Nat} {z : Int} (h : FZ N z) (hT : TrimD ds) (hz : z = sgn s (vald ds)) : ds.length ≤ N := ZN.len hT hz h
theorem badd_spec {v w : Value} {x y : Int} {N : Nat} {H : SHeap} (hA : ZN H v x) (hB : ZN H w y) (fx : FZ N x) (fy : FZ N y) (hN : N ≤ 10000000000) : SW prog 56 [v, w] H (fun u H1 => Ext H H1 ∧ ZN H1 u (x + y)) := by
  refine SW.cps fun Q hQ => ?_
  obtain ⟨s1, a1, c1, d1, rfl, hR1, hD1, hT1, hz1, hs1⟩ := hA
  obtain ⟨s2, a2, c2, d2, rfl, hR2, hD2, hT2, hz2, hs2⟩ := hB
  have hl1 := fx.len hT1 hz1
  have hl2 := fy.len hT2 hz2
  clear fx fy
  apply into_big_Add (by simp)
  simp [Z_big_Add]
  have hx0 : Ext H (H ++ [.dead, .dead, .dead]) := Ext.more H (by simp)
  refine Brt.mk (fun hb => ?_) (fun hb => ?_)
  · have hs : s1 = s2 := by simpa using hb
    simp
    refine SWt.mk (bplus_spec (hR1.ext hx0) (hR2.ext hx0) hD1 hD2 (by omega) (by omega)) ?_
    rintro _ H1 ⟨hx1, a3, c3, d3, rfl, hR3, hD3, hv3, hl3⟩
    refine ⟨hx1, ?_⟩
    simp
    refine SWt.mk (lean_spec hR3 hD3 (by omega)) ?_
    rintro u H2 ⟨hx2, hu⟩
    simp
    refine Putt.mk hu.whole ?_
    simp [retOf]
    refine hQ _ _ ⟨hx0.tr (hx1.tr hx2), ?_⟩
    have e : x + y = sgn s1 (vald d3) := by
      rw [hz1, hz2, hv3, ← hs]
      cases s1 <;> simp [sgn]; omega
    rw [e]
    exact hu
  · have hs : s1 ≠ s2 := by simpa using hb
    simp
    refine SWt.mk (sizes_spec (hR1.ext hx0) (hR2.ext hx0) hD1 hD2 hT1 hT2 (by omega) (by omega)) ?_
    rintro _ H1 ⟨rfl, rfl⟩
    simp
    refine Brt.mkD (fun hc => ?_) (fun hc => ?_)
    · have hge : vald d2 ≤ vald d1 := by
        by_cases h : vald d1 < vald d2
        · rw [if_pos h] at hc; omega
        · omega
      have hlen : d2.length ≤ d1.length := by
        by_cases h : d2.length ≤ d1.length
        · exact h
        · have := hT2.lt_len hD1 (by omega); omega
      simp
      refine SWt.mk (bless_spec (hR1.ext hx0) (hR2.ext hx0) hD1 hD2 (by omega) hge hlen) ?_
      rintro _ H1 ⟨hx1, a3, c3, d3, rfl, hR3, hD3, hv3, hl3⟩
      refine ⟨hx1, ?_⟩
      simp
      refine SWt.mk (lean_spec hR3 hD3 (by omega)) ?_
      rintro u H2 ⟨hx2, hu⟩
      simp
      refine Putt.mk hu.whole ?_
      simp [retOf]
      refine hQ _ _ ⟨hx0.tr (hx1.tr hx2), ?_⟩
      have e : x + y = sgn s1 (vald d3) := by
        rw [hz1, hz2, hv3]
        cases s1 <;> cases s2 <;> simp [sgn] at hs ⊢ <;> omega
      rw [e]
      exact hu
    · have hlt : vald d1 < vald d2 := by
        by_cases h : vald d1 < vald d2
        · exact h
        · rw [if_neg h] at hc
          split at hc <;> omega
      have hlen : d1.length ≤ d2.length := by
        by_cases h : d1.length ≤ d2.length
        · exact h
        · have := hT1.lt_len hD2 (by omega); omega
      simp
      refine SWt.mk (bless_spec (hR2.ext hx0) (hR1.ext hx0) hD2 hD1 (by omega) (by omega) hlen) ?_
      rintro _ H1 ⟨hx1, a3, c3, d3, rfl, hR3, hD3, hv3, hl3⟩
      refine ⟨hx1, ?_⟩
      simp
      refine SWt.mk (lean_spec hR3 hD3 (by omega)) ?_
      rintro u H2 ⟨hx2, hu⟩
      simp
      refine Putt.mk hu.whole ?_
      simp [retOf]
      refine hQ _ _ ⟨hx0.tr (hx1.tr hx2), ?_⟩
      have e : x + y = sgn s2 (vald d3) := by
        rw [hz1, hz2, hv3]
        cases s1 <;> cases s2 <;> simp [sgn] at hs ⊢ <;> omega
      rw [e]
      exact hu
theorem bsub_spec {v w : Value} {x y : Int} {N : Nat} {H : SHeap} (hA : ZN H v x) (hB : ZN H w y) (fx : FZ N x) (fy : FZ N y) (hN : N ≤ 10000000000) : SW prog 71 [v, w] H (fun u H1 => Ext H H1 ∧ ZN H1 u (x - y)) := by
  refine SW.cps fun Q hQ => ?_
  have hwA := hA.whole
  have hwB := hB.whole
  have hA' := hA
  have hB' := hB
  obtain ⟨s1, a1, c1, d1, rfl, -⟩ := hA'
  obtain ⟨s2, a2, c2, d2, rfl, -⟩ := hB'
  apply into_big_Sub (by simp)
  simp [Z_big_Sub]
  have hx0 : Ext H (H ++ [.dead, .dead, .dead]) := Ext.more H (by simp)
  refine SWt.mk (bneg_spec (hB.ext hx0)) ?_
  rintro u H1 ⟨hx1, hu⟩
  refine ⟨hx1, ?_⟩
  simp
  refine SWt.mk (badd_spec (hA.ext (hx0.tr hx1)) hu fx fy.neg hN) ?_
  rintro w H2 ⟨hx2, hw⟩
  simp
  refine Putt.mk hw.whole ?_
  simp [retOf]
  exact hQ _ _ ⟨hx0.tr (hx1.tr hx2), by rw [Int.sub_eq_add_neg]; exact hw⟩
theorem bcmp_spec {v w : Value} {x y : Int} {N : Nat} {H : SHeap} (hA : ZN H v x) (hB : ZN H w y) (fx : FZ N x) (fy : FZ N y) (hN : N ≤ 10000000000) : SW prog 44 [v, w] H (fun u H1 => Ext H H1 ∧ u = .int .i64 (if x < y then -1 else if x = y then 0 else 1)) := by
  refine SW.cps fun Q hQ => ?_
  have hA' := hA
  have hB' := hB
  obtain ⟨s1, a1, c1, d1, rfl, -⟩ := hA'
  obtain ⟨s2, a2, c2, d2, rfl, -⟩ := hB'
  apply into_big_Cmp (by simp)
  simp [Z_big_Cmp]
  have hx0 : Ext H (H ++ [.dead, .dead]) := Ext.more H (by simp)
  refine SWt.mk (bsub_spec (hA.ext hx0) (hB.ext hx0) fx fy hN) ?_
  rintro u H1 ⟨hx1, hu⟩
  simp
  refine SWt.mk (bsign_spec hu) ?_
  rintro w H2 ⟨hx2, rfl⟩
  simp [retOf]
  refine hQ _ _ ⟨hx0.tr (hx1.tr hx2), ?_⟩
  congr 1
  by_cases h1 : x < y
  · rw [if_pos (by omega), if_pos h1]
  · rw [if_neg (by omega), if_neg h1]
    by_cases h2 : x = y
    · rw [if_pos (by omega), if_pos h2]
    · rw [if_neg (by omega), if_neg h2]
theorem vald_set {ds : List Nat} {j d : Nat} (hj : j < ds.length) : vald (ds.set j d) + 10000 ^ j * (ds[j]?.getD 0) = vald ds + 10000 ^ j * d := by
  rw [vald_split (ds.set j d) j (by simp; omega), vald_split ds j (by omega)]
  have h1 : (ds.set j d).take j = ds.take j := by rw [List.take_set_of_le (Nat.le_refl j)]
  rw [h1, vald_drop (ds := ds.set j d) (by simpa using hj), vald_drop hj, List.getElem?_set_self hj]
  have h2 : (ds.set j d).drop (j + 1) = ds.drop (j + 1) := by rw [List.drop_set_of_lt (by omega)]
  rw [h2]
  simp only [Option.getD_some]
  rw [Nat.mul_add, Nat.mul_add]
  omega
theorem Dg.set {ds : List Nat} {j d : Nat} (h : Dg ds) (hd : d < 10000) : Dg (ds.set j d) := fun x hx => by
  rcases List.mem_or_eq_of_mem_set hx with hx | rfl
  · exact h x hx
  · exact hd
theorem mul_step {V O o cy X P i k a b d c' s : Nat} (h : V + 10000 ^ (i + k) * cy = P + 10000 ^ i * (a * X)) (hs : s = o + cy + a * b) (hd : d + 10000 * c' = s) (hV : O + 10000 ^ (i + k) * o = V + 10000 ^ (i + k) * d) : O + 10000 ^ (i + (k + 1)) * c' = P + 10000 ^ i * (a * (X + 10000 ^ k * b)) := by
  have h1 : 10000 ^ (i + (k + 1)) * c' = 10000 ^ (i + k) * (10000 * c') := by
    rw [← Nat.add_assoc, Nat.pow_succ, Nat.mul_assoc]
  have h2 : 10000 ^ (i + k) * d + 10000 ^ (i + k) * (10000 * c') = 10000 ^ (i + k) * o + 10000 ^ (i + k) * cy + 10000 ^ (i + k) * (a * b) := by
    rw [← Nat.mul_add, ← Nat.mul_add, ← Nat.mul_add, hd, hs]
  have h3 : 10000 ^ (i + k) * (a * b) = 10000 ^ i * (a * (10000 ^ k * b)) := by
    rw [Nat.pow_add, Nat.mul_assoc]
    congr 1
    rw [← Nat.mul_assoc, ← Nat.mul_assoc, Nat.mul_comm (10000 ^ k) a]
  rw [Nat.mul_add, Nat.mul_add, h1]
  omega
theorem mul_top {A B a i lb V cy : Nat} (hA : A < 10000 ^ i) (ha : a < 10000) (hB : B < 10000 ^ lb) (h : V + 10000 ^ (i + (lb + 1)) * cy = A * B + 10000 ^ i * (a * B)) : cy = 0 := by
  rcases Nat.eq_zero_or_pos cy with h0 | h0
  · exact h0
  · exfalso
    have h1 : A * B + 10000 ^ i * (a * B) = (A + 10000 ^ i * a) * B := by rw [Nat.add_mul, Nat.mul_assoc]
    have h2 : A + 10000 ^ i * a < 10000 ^ (i + 1) := by
      have h3 : 10000 ^ i * (a + 1) ≤ 10000 ^ i * 10000 := Nat.mul_le_mul_left _ ha
      rw [Nat.mul_add, Nat.mul_one] at h3
      rw [Nat.pow_succ]
      omega
    have h3 : (A + 10000 ^ i * a) * B < 10000 ^ (i + 1) * 10000 ^ lb := Nat.mul_lt_mul'' h2 hB
    rw [← Nat.pow_add] at h3
    have h4 : 10000 ^ (i + (lb + 1)) * 1 ≤ 10000 ^ (i + (lb + 1)) * cy := Nat.mul_le_mul_left _ h0
    have h5 : i + (lb + 1) = i + 1 + lb := by omega
    rw [h5] at h h4
    omega
theorem bmul_spec {v w : Value} {x y : Int} {N : Nat} {H : SHeap} (hA : ZN H v x) (hB : ZN H w y) (fx : FZ N x) (fy : FZ N y) (hN : N ≤ 1000000000) : SW prog 45 [v, w] H (fun u H1 => Ext H H1 ∧ ZN H1 u (x * y)) := by
  refine SW.cps fun Q hQ => ?_
  obtain ⟨s1, a1, c1, xa, rfl, hR1, hD1, hT1, hz1, hs1⟩ := hA
  obtain ⟨s2, a2, c2, xb, rfl, hR2, hD2, hT2, hz2, hs2⟩ := hB
  have hl1 := fx.len hT1 hz1
  have hl2 := fy.len hT2 hz2
  clear fx fy
  obtain ⟨la, hla⟩ : ∃ la, la = xa.length := ⟨_, rfl⟩
  obtain ⟨lb, hlb⟩ : ∃ lb, lb = xb.length := ⟨_, rfl⟩
  rw [← hla] at hR1 hl1
  rw [← hlb] at hR2 hl2
  rw [← hla, ← hlb]
  apply into_big_Mul (by simp)
  simp [Z_big_Mul]
  have hx0 : Ext H (H ++ [.dead, .dead, .dead]) := Ext.more H (by simp)
  have hR10 := hR1.ext hx0
  have hR20 := hR2.ext hx0
  have hw1 : IntKind.i64.wrap ((la : Int) + (lb : Int)) = ((la + lb : Nat) : Int) := by rw [w64 (by omega) (by omega)]; simp
  have hw2 : IntKind.i64.wrap (((la : Int) + (lb : Int)) + 1) = ((la + lb + 1 : Nat) : Int) := by rw [w64 (by omega) (by omega)]; simp
  refine tx_lnR (R := NR) (xs := xa) (by simpa using hR10) (by simp) ?_
  simp [← hla]
  refine tx_lnR (R := NR) (xs := xb) (by simpa using hR20) (by simp) ?_
  simp [← hlb, hw1, hw2]
  refine tx_mkS (e := 3) (sz := 1) (by_ := 8) (ag := false) (n := la + lb + 1) (kl := .i64) (kc := .i64) (z := .int .i64 0) (R := NR) (a := 0) (by simp) (by simp) (by simp) (by rfl) (by rfl) (by simp) (wh_int 0) (by simp) (by simp) (by decide) (by decide) (by omega) (fun H' => rfl) ?_
  intro oa oc H1 hO1' hx1'
  have hO1 := hO1'.le (k' := H.length) (by simp)
  have hx1 := hx0.tr hx1'
  simp
  refine LoopZt.mk (by kernel_rfl) (fun m F2 G2 H2 => ∃ (i : Nat) (o : List Nat), m = la - i ∧ i ≤ la ∧ F2 6 = .int .i64 (i : Int) ∧ Ext H H2 ∧ OwR H.length 3 1 false NR H2 (.slice oa (la + lb + 1) oc) o ∧ o.length = la + lb + 1 ∧ Dg o ∧ vald o = vald (xa.take i) * vald xb) la ⟨0, List.replicate (la + lb + 1) 0, by omega, by omega, by simp, hx1, hO1, by simp, fun d hd => by rw [List.mem_replicate] at hd; omega, by rw [vald_zeros]; simp [vald]⟩ ?_
  rintro m F2 G2 H2 ⟨i, o, rfl, hi, h6, hx2, hO2, hol, hod, hv2⟩ K hK
  simp at h6
  simp [h6]
  refine tx_lnR (R := NR) (xs := xa) (by simpa using hR1.ext hx2) (by simp) ?_
  simp [← hla]
  refine Brt.mkD (fun hlt => ?_) (fun hge => ?_)
  · refine Exists.elim (⟨_, gtE (show i < xa.length by omega)⟩ : ∃ d, xa[i]? = some d) fun ai hai => ?_
    have haig : xa[i]?.getD 0 = ai := by rw [hai]; rfl
    have hab : ai < 10000 := haig ▸ hD1.get i
    simp
    refine LoopZt.mk (by kernel_rfl) (fun m F3 G3 H3 => ∃ (k cy : Nat) (o : List Nat), m = lb + 1 - k ∧ k ≤ lb + 1 ∧ cy < 10000 ∧ (k = lb + 1 → cy = 0) ∧ F3 7 = .int .i64 (cy : Int) ∧ F3 8 = .int .i64 (k : Int) ∧ Ext H H3 ∧ OwR H.length 3 1 false NR H3 (.slice oa (la + lb + 1) oc) o ∧ o.length = la + lb + 1 ∧ Dg o ∧ vald o + 10000 ^ (i + k) * cy = vald (xa.take i) * vald xb + 10000 ^ i * (ai * vald (xb.take k))) (lb + 1) ⟨0, 0, o, by omega, by omega, by omega, by omega, by simp, by simp, hx2, hO2, hol, hod, by rw [hv2]; simp [vald]⟩ ?_
    rintro m F3 G3 H3 ⟨k, cy, o3, rfl, hk, hcb, hk0, h7, h8, hx3, hO3, hol3, hod3, hv3⟩ K3 hK3
    simp at h7 h8
    have hR23 := hR2.ext hx3
    have hR13 := hR1.ext hx3
    simp only [tzx_seq]
    refine ZXt.join (by kernel_rfl) (fun F4 G4 H4 => H4 = H3 ∧ F4 34 = .bool (decide (k < lb ∨ 0 < cy))) ?_ ?_
    · rintro K4 hK4 -
      simp [h8]
      refine tx_lnR (R := NR) (xs := xb) (by simpa using hR23) (by simp) ?_
      simp [← hlb]
      by_cases hkl : k < lb
      · simp [hkl]
        exact hK4 _ _ _ ⟨rfl, by simp [hkl]⟩
      · simp [hkl, h7]
        exact hK4 _ _ _ ⟨rfl, by simp [hkl]⟩
    · rintro F4 G4 H4 ⟨rfl, h34⟩
      simp only [mix_ap] at h34
      simp at h34
      simp [h34]
      refine Brt.mk (fun hb => ?_) (fun hb => ?_)
      · simp at hb
        have hkb : k ≤ lb := by omega
        have hwik : IntKind.i64.wrap ((i : Int) + (k : Int)) = ((i + k : Nat) : Int) := by rw [w64 (by omega) (by omega)]; simp
        have hbk := hD2.get k
        refine Exists.elim (⟨_, gtE (show i + k < o3.length by omega)⟩ : ∃ d, o3[i + k]? = some d) fun oj hoj => ?_
        have hojg : o3[i + k]?.getD 0 = oj := by rw [hoj]; rfl
        have hojb : oj < 10000 := hojg ▸ hod3.get (i + k)
        have hwo : IntKind.i64.wrap ((oj : Int) + (cy : Int)) = ((oj + cy : Nat) : Int) := by rw [w64 (by omega) (by omega)]; simp
        simp [h6, h8, hwik]
        refine tx_elem (R := NR) (xs := o3) (n := i + k) (a := oj) (e := 3) (sz := 1) (ag := false) (by simpa using hO3.row) (by simp) hoj (by simp) (by simp) (by simp) (by decide) ?_
        rintro p5 u5 rfl
        simp [h7, hwo]
        have hprod : ai * xb[k]?.getD 0 ≤ 9999 * 9999 := Nat.mul_le_mul (by omega) (by omega)
        refine ZXt.join (by kernel_rfl) (fun F5 G5 H5 => H5 = H4 ∧ F5 9 = .int .i64 ((oj + cy + ai * xb[k]?.getD 0 : Nat) : Int)) ?_ ?_
        · rintro K5 hK5 -
          simp [h8]
          refine tx_lnR (R := NR) (xs := xb) (by simpa using hR23) (by simp) ?_
          simp [← hlb]
          refine Brt.mkD (fun hlt2 => ?_) (fun hlt2 => ?_)
          · refine Exists.elim (⟨_, gtE (show k < xb.length by omega)⟩ : ∃ d, xb[k]? = some d) fun bk hbk' => ?_
            rw [hbk'] at hprod
            simp at hprod
            have hwp : IntKind.i64.wrap ((ai : Int) * (bk : Int)) = ((ai * bk : Nat) : Int) := by
              rw [show (ai : Int) * (bk : Int) = ((ai * bk : Nat) : Int) by simp]
              exact w64 (by omega) (by omega)
            have hws : IntKind.i64.wrap (((oj : Int) + (cy : Int)) + (ai : Int) * (bk : Int)) = ((oj + cy + ai * bk : Nat) : Int) := by
              rw [show ((oj : Int) + (cy : Int)) + (ai : Int) * (bk : Int) = ((oj + cy + ai * bk : Nat) : Int) by simp]
              exact w64 (by omega) (by omega)
            simp [h6]
            refine tx_elem (R := NR) (xs := xa) (n := i) (a := ai) (e := 3) (sz := 1) (ag := false) (by simpa using hR13) (by simp [h6]) hai (by simp) (by simp) (by simp) (by decide) ?_
            rintro p6 u6 rfl
            simp [h8]
            refine tx_elem (R := NR) (xs := xb) (n := k) (a := bk) (e := 3) (sz := 1) (ag := false) (by simpa using hR23) (by simp [h8]) hbk' (by simp) (by simp) (by simp) (by decide) ?_
            rintro p7 u7 rfl
            simp [hwp, hws]
            exact hK5 _ _ _ ⟨rfl, by simp [hbk']⟩
          · have : xb[k]? = none := List.getElem?_eq_none (by omega)
            try simp
            exact hK5 _ _ _ ⟨rfl, by simp [this]⟩
        · rintro F5 G5 H5 ⟨rfl, h9⟩
          simp only [mix_ap] at h9
          simp at h9
          refine Exists.elim (⟨_, rfl⟩ : ∃ S, S = oj + cy + ai * xb[k]?.getD 0) fun S hS => ?_
          have h9' : F5 9 = .int .i64 (S : Int) := by rw [h9, hS]; simp
          have hm1 : (S : Int).tmod 10000 = ((S % 10000 : Nat) : Int) := rfl
          have hm2 : (S : Int).tdiv 10000 = ((S / 10000 : Nat) : Int) := rfl
          have hwq : IntKind.i64.wrap ((S : Int) / 10000) = (S : Int) / 10000 := w64 (by omega) (by omega)
          have hwk : IntKind.i64.wrap ((k : Int) + 1) = ((k + 1 : Nat) : Int) := by rw [w64 (by omega) (by omega)]; simp
          simp [h6, h8, h9', hwik, hm1, hm2, hwq]
          refine tx_put (k := H.length) (e := 3) (sz := 1) (ag := false) (n := i + k) (R := NR) (xs := o3) (a := S % 10000) (by simpa using hO3) (by simp) (by omega) (by simp [NR]) (by simpa using wh_int _) (by simp) (fun _ _ _ _ _ h => h) (by simp) (by simp) (by simp) (by decide) ?_
          rintro p8 H8 hO8 hx8 hk8 hl8 -
          simp at hO8
          simp [h8, hwk]
          have hset := vald_set (ds := o3) (j := i + k) (d := S % 10000) (by omega)
          rw [hojg] at hset
          have hst := mul_step (X := vald (xb.take k)) (b := xb[k]?.getD 0) (d := S % 10000) (c' := S / 10000) hv3 hS (by omega) hset
          rw [← vald_take_next] at hst
          refine hK3 (lb + 1 - (k + 1)) _ _ _ (by omega) ⟨k + 1, S / 10000, o3.set (i + k) (S % 10000), rfl, by omega, by omega, fun he => ?_, by simp, by simp, hx8 _ (Nat.le_refl _) hx3, hO8, by simp [hol3], hod3.set (Nat.mod_lt _ (by decide)), hst⟩
          have hke : k = lb := by omega
          have htk : xb.take (k + 1) = xb := List.take_of_length_le (by omega)
          rw [htk, hke] at hst
          refine mul_top (A := vald (xa.take i)) (B := vald xb) (a := ai) (i := i) (lb := lb) ?_ hab ?_ hst
          · have := vald_lt (hD1.take i)
            rw [List.length_take, Nat.min_eq_left (by omega)] at this
            exact this
          · have := vald_lt hD2
            rw [← hlb] at this
            exact this
      · simp at hb
        have hcy0 : cy = 0 := by omega
        have htk : xb.take k = xb := List.take_of_length_le (by omega)
        rw [hcy0, htk] at hv3
        have hwi : IntKind.i64.wrap ((i : Int) + 1) = ((i + 1 : Nat) : Int) := by rw [w64 (by omega) (by omega)]; simp
        simp [h6, hwi]
        refine hK (la - (i + 1)) _ _ _ (by omega) ⟨i + 1, o3, rfl, by omega, by simp, hx3, hO3, hol3, hod3, ?_⟩
        rw [vald_take_next, haig, Nat.add_mul, Nat.mul_assoc]
        simpa using hv3
  · have htk : xa.take i = xa := List.take_of_length_le (by omega)
    rw [htk] at hv2
    have hlean := lean_spec (s := s1 != s2) (ds := o) (a := oa) (c := oc) (H := H2) (by rw [hol]; exact hO2.row) hod (by omega)
    rw [hol] at hlean
    simp
    refine SWt.mk hlean ?_
    rintro u H3 ⟨hx3, hu⟩
    simp
    refine Putt.mk hu.whole ?_
    simp [retOf]
    refine hQ _ _ ⟨hx2.tr hx3, ?_⟩
    have e : x * y = sgn (s1 != s2) (vald o) := by
      rw [hz1, hz2, hv2]
      cases s1 <;> cases s2 <;> simp [sgn, Int.neg_mul, Int.mul_neg]
    rw [e]
    exact hu
attribute [simp] cutCells
def TDs (H : SHeap) (u : Value) (n : Nat) : Prop := ∃ a c ds, u = .slice a ds.length c ∧ DR H (.slice a ds.length c) ds ∧ Dg ds ∧ TrimD ds ∧ vald ds = n
theorem sgn_nn {s : Bool} {ds : List Nat} {n : Nat} (h : (n : Int) = sgn s (vald ds)) (hT : TrimD ds) (hs : ds = [] → s = false) : s = false ∧ vald ds = n := by
  cases s with
  | false => exact ⟨rfl, by simp [sgn] at h; omega⟩
  | true =>
    simp [sgn] at h
    have h0 : vald ds = 0 := by omega
    have := hs (hT.zero.1 h0)
    cases this
theorem FZ.ds {ds : List Nat} (h : Dg ds) : FZ ds.length (vald ds : Int) := by
  unfold FZ
  rw [Int.natAbs_natCast]
  exact vald_lt h
theorem btimes_spec {v : Value} {x : List Nat} {d : Nat} {H : SHeap} (hA : DR H v x) (hx : Dg x) (tx : TrimD x) (hl : x.length < 900000000) (hd : d ≤ 10000) : SW prog 97 [v, .int .i64 d] H (fun u H1 => Ext H H1 ∧ TDs H1 u (vald x * d)) := by
  refine SW.cps fun Q hQ => ?_
  obtain ⟨a, c, rfl⟩ := Row.len hA
  apply into_big_times (by simp)
  simp [Z_big_times]
  refine SWt.mk (bint_spec (by omega) (by omega)) ?_
  rintro u H1 ⟨hx1, hu⟩
  simp
  have hZ : ZN H1 (.agg #[.bool false, .slice a x.length c]) (vald x) := ⟨false, a, c, x, rfl, hA.ext hx1, hx, tx, rfl, fun _ => rfl⟩
  refine SWt.mk (bmul_spec (N := x.length + 5) hZ hu ((FZ.ds hx).mono (by omega)) (FZ.mono (FZ.i64 (by omega) (by omega)) (by omega)) (by omega)) ?_
  rintro _ H2 ⟨hx2, s2, a2, c2, d2, rfl, hR2, hD2, hT2, hz2, hs2⟩
  have h2 : s2 = false ∧ vald d2 = vald x * d := sgn_nn (by rw [← hz2]; simp) hT2 hs2
  have hl2 : d2.length ≤ x.length + 5 + (x.length + 5) := FZ.len (N := x.length + 5 + (x.length + 5)) (z := (vald x : Int) * d) (FZ.mul ((FZ.ds hx).mono (by omega)) (FZ.mono (FZ.i64 (by omega) (by omega)) (by omega))) hT2 hz2
  simp
  refine SWt.mk (lean_spec hR2 hD2 (by omega)) ?_
  rintro _ H3 ⟨hx3, s3, a3, c3, d3, rfl, hR3, hD3, hT3, hz3, hs3⟩
  rw [h2.1] at hz3
  have h3 : s3 = false ∧ vald d3 = vald d2 := sgn_nn (by rw [← hz3]; simp [sgn]) hT3 hs3
  simp [retOf]
  exact hQ _ _ ⟨hx1.tr (hx2.tr hx3), a3, c3, d3, rfl, hR3, hD3, hT3, by rw [h3.2, h2.2]⟩
theorem OwR.pos {α : Type} {k e sz : Nat} {ag : Bool} {R : SHeap → Value → α → Prop} {H : SHeap} {v : Value} {xs : List α} (h : OwR k e sz ag R H v xs) (hx : 0 < xs.length) : 0 < H.length := by
  obtain ⟨cs, ⟨h1, h2⟩, h3⟩ := h
  rcases h2 with ⟨h0, -⟩ | ⟨c, i, cap, l, all, q1, q2, q3, q4, q5, q6⟩
  · omega
  · have := (gsI.1 q5).1
    omega
theorem fdm {a b q r : Int} (hb : 0 < b) (h : r + b * q = a) (h0 : 0 ≤ r) (h1 : r < b) : a.fdiv b = q ∧ a.fmod b = r := by
  rw [Int.fdiv_eq_ediv_of_nonneg _ (by omega), Int.fmod_eq_emod_of_nonneg _ (by omega)]
  exact (Int.ediv_emod_unique hb).2 ⟨h, h0, h1⟩
theorem TrimD.len_le {a b : List Nat} (ha : TrimD a) (hb : Dg b) (h : vald a ≤ vald b) : a.length ≤ b.length := by
  by_cases hl : a.length ≤ b.length
  · exact hl
  · have := ha.lt_len hb (by omega); omega
theorem div_step {X Q B R a lo S : Nat} (h : X = Q * B + R) (hS : S = a + 10000 * R) (hlo : lo * B ≤ S) : a + 10000 * X = (lo + 10000 * Q) * B + (S - lo * B) := by
  rw [Nat.add_mul, Nat.mul_assoc]
  omega
theorem bdivmod_spec {v w : Value} {x y : Int} {N : Nat} {H : SHeap} (hA : ZN H v x) (hB : ZN H w y) (fx : FZ N x) (fy : FZ N y) (hN : N ≤ 100000000) (hy : 0 < y) : SW prog 70 [v, w] H (fun u H1 => Ext H H1 ∧ ∃ q r, u = .tuple #[q, r] ∧ ZN H1 q (x.fdiv y) ∧ ZN H1 r (x.fmod y)) := by
  refine SW.cps fun Q hQ => ?_
  have fx' := fx
  have fy' := fy
  have hB' := hB
  obtain ⟨s1, a1, c1, xa, rfl, hR1, hD1, hT1, hz1, hs1⟩ := hA
  obtain ⟨s2, a2, c2, xb, rfl, hR2, hD2, hT2, hz2, hs2⟩ := hB
  have hl1 := fx.len hT1 hz1
  have hl2 := fy.len hT2 hz2
  obtain ⟨rfl, hyv⟩ : s2 = false ∧ vald xb = y.natAbs := sgn_nn (by rw [← hz2]; omega) hT2 hs2
  obtain ⟨la, hla⟩ : ∃ la, la = xa.length := ⟨_, rfl⟩
  obtain ⟨Bv, hBv⟩ : ∃ Bv, Bv = vald xb := ⟨_, rfl⟩
  have hBp : 0 < Bv := by omega
  clear fx fy
  apply into_big_DivMod (by simp)
  simp [Z_big_DivMod]
  have hx0 : Ext H (H ++ [.dead, .dead, .dead, .dead]) := Ext.more H (by simp)
  refine tx_lnR (R := NR) (xs := xa) (by simpa using hR1.ext hx0) (by simp) ?_
  refine tx_mkS (e := 3) (sz := 1) (by_ := 8) (ag := false) (n := xa.length) (kl := .i64) (kc := .i64) (z := .int .i64 0) (R := NR) (a := 0) (by simp) (by simp) (by simp) (by rfl) (by rfl) (by simp) (wh_int 0) (by simp) (by simp) (by decide) (by decide) (by omega) (fun H' => rfl) ?_
  intro oa oc H1 hO1' hx1'
  have hO1 := hO1'.le (k' := H.length) (by simp)
  have hx1 := hx0.tr hx1'
  refine tx_bs0 (e := 3) (sz := 1) (by simp) (by simp) ?_
  simp
  refine tx_lnR (R := NR) (xs := xa) (by simpa using hR1.ext hx1) (by simp) ?_
  have hwl : IntKind.i64.wrap ((xa.length : Int) - 1) = (xa.length : Int) - 1 := w64 (by omega) (by omega)
  simp [hwl]
  refine LoopZt.mk (by kernel_rfl) (fun m F2 G2 H2 => ∃ (o : List Nat) (ra : Option Addr) (rc : Nat) (rs : List Nat), m ≤ xa.length ∧ F2 8 = .int .i64 ((m : Int) - 1) ∧ F2 7 = .slice ra rs.length rc ∧ Ext H H2 ∧ OwR H.length 3 1 false NR H2 (.slice oa xa.length oc) o ∧ o.length = xa.length ∧ Dg o ∧ DR H2 (.slice ra rs.length rc) rs ∧ Dg rs ∧ TrimD rs ∧ vald rs < Bv ∧ vald (o.take m) = 0 ∧ vald (xa.drop m) = vald (o.drop m) * Bv + vald rs) xa.length ⟨List.replicate xa.length 0, some ⟨0, 0, none⟩, 0, [], Nat.le_refl _, by simp, by simp, hx1, hO1, by simp, fun d hd => by rw [List.mem_replicate] at hd; omega, (OwR.void 0 _ _ 0 _ _ _).row, Dg.nil, TrimD.nil, by simpa [vald] using hBp, by rw [List.take_of_length_le (by simp), vald_zeros], by rw [List.drop_of_length_le (by simp)]; simp [vald]⟩ ?_
  rintro m F2 G2 H2 ⟨o, ra, rc, rs, hm, h8, h7, hx2, hO2, hol, hod, hRr, hDr, hTr, hrB, ho0, hoe⟩ K hK
  simp at h8 h7
  simp [h8]
  refine Brt.mkD (fun hge => ?_) (fun hge => ?_)
  · refine Exists.elim (⟨m - 1, by omega⟩ : ∃ i : Nat, m = i + 1) fun i hi => ?_
    have hmi : (m : Int) - 1 = (i : Int) := by omega
    have hwi : IntKind.i64.wrap ((i : Int) - 1) = (i : Int) - 1 := w64 (by omega) (by omega)
    refine Exists.elim (⟨_, gtE (show i < xa.length by omega)⟩ : ∃ d, xa[i]? = some d) fun ai hai => ?_
    have haig : xa[i]?.getD 0 = ai := by rw [hai]; rfl
    have hab : ai < 10000 := haig ▸ hD1.get i
    have hrl : rs.length ≤ xb.length := hTr.len_le hD2 (by omega)
    have hl2' := Ext.len hx2
    rw [hi] at hoe ho0
    simp [h8, hmi]
    refine tx_elem (R := NR) (xs := xa) (n := i) (a := ai) (e := 3) (sz := 1) (ag := false) (by simpa using hR1.ext hx2) (by simp [h8, hmi]) hai (by simp) (by simp) (by simp) (by decide) ?_
    rintro p3 u3 rfl
    refine tx_bs1R (e := 3) (sz := 1) (ag := false) (z := .int .i64 0) (R := NR) (a := ai) (fun H' _ => by simp [NR]) (by simpa using wh_int _) (by simp) (by simp) (by simp) (by rfl) (by rfl) (by rfl) (by decide) (by decide) ?_
    intro v4 H4 hO4 hx4
    simp [h7]
    refine tx_apS (k := H2.length) (e := 3) (sz := 1) (ag := false) (by_ := 8) (z := .int .i64 0) (R := NR) (xs := [ai]) (ys := rs) (by simpa using hO4) (by simpa [h7] using hRr.ext hx4) (fun u y h => by rw [show u = _ from h]; exact wh_int y) (fun H' s' u y hk h => h) (by simp) (by simp) (by simp) (by simp) (by decide) (by rfl) (by rfl) (by rfl) (by decide) (by simp; omega) (by have := Ext.len hx4; omega) ?_
    intro aa5 cc5 H5 hO5 hx5 hk5
    have e5 : [ai].length + rs.length = (ai :: rs).length := by simp; omega
    rw [e5] at hO5
    have hx25 := hx5 _ (Nat.le_refl _) hx4
    simp only [e5]
    simp
    refine SWt.mk (leanO_spec (s := false) (ds := ai :: rs) hO5.row (fun d hd => by
      rcases List.mem_cons.1 hd with rfl | hd
      · exact hab
      · exact hDr d hd) (by simp; omega)) ?_
    rintro _ H6 ⟨hx6, s3, a3, c3, d3, rfl, hO3, hD3, hT3, hz3, hs3⟩
    have hR3 : DR H6 (.slice a3 d3.length c3) d3 := hO3.row
    have h3 : s3 = false ∧ vald d3 = ai + 10000 * vald rs := sgn_nn (by rw [← hz3]; simp [sgn, vald]) hT3 hs3
    have hS3 : vald d3 < 10000 * Bv := by rw [h3.2]; omega
    have hx26 := hx2.tr (hx25.tr hx6)
    have hl3 : d3.length ≤ xb.length + 1 := by
      refine hT3.len (n := xb.length + 1) ?_
      have := vald_lt hD2
      rw [Nat.pow_succ, ← hBv] at *
      omega
    simp
    refine LoopZt.mk (by kernel_rfl) (fun w F7 G7 H7 => ∃ lo hi' : Nat, w = hi' - lo ∧ lo < hi' ∧ hi' ≤ 10000 ∧ F7 9 = .int .i64 (lo : Int) ∧ F7 10 = .int .i64 (hi' : Int) ∧ Ext H6 H7 ∧ lo * Bv ≤ vald d3 ∧ vald d3 < hi' * Bv) 10000 ⟨0, 10000, by omega, by omega, by omega, by simp, by simp, Ext.refl _, by omega, hS3⟩ ?_
    rintro w F7 G7 H7 ⟨lo, hi', rfl, hlh, hhb, h9, h10, hx7, hlo, hhi⟩ K7 hK7
    simp at h9 h10
    have hw1 : IntKind.i64.wrap ((hi' : Int) - (lo : Int)) = (hi' : Int) - (lo : Int) := w64 (by omega) (by omega)
    simp [h9, h10, hw1]
    refine Brt.mkD (fun hgt => ?_) (fun hgt => ?_)
    · have hw2 : IntKind.i64.wrap ((lo : Int) + (hi' : Int)) = ((lo + hi' : Nat) : Int) := by rw [w64 (by omega) (by omega)]; simp
      have hm2 : ((lo : Int) + (hi' : Int)).tdiv 2 = (((lo + hi') / 2 : Nat) : Int) := by
        rw [show (lo : Int) + (hi' : Int) = ((lo + hi' : Nat) : Int) by simp]; rfl
      refine Exists.elim (⟨(lo + hi') / 2, rfl⟩ : ∃ md, md = (lo + hi') / 2) fun md hmd => ?_
      rw [← hmd] at hm2
      have hw3 : IntKind.i64.wrap (md : Int) = (md : Int) := w64 (by omega) (by omega)
      simp [h9, h10, hw2, hm2, hw3]
      refine SWt.mk (btimes_spec (hR2.ext (hx26.tr hx7)) hD2 hT2 (by omega) (by omega)) ?_
      rintro _ H8 ⟨hx8, a9, c9, d9, rfl, hR9, hD9, hT9, hv9⟩
      rw [← hBv] at hv9
      have hl9 : d9.length ≤ xb.length + 1 := by
        refine hT9.len (n := xb.length + 1) ?_
        have h1 := vald_lt hD2
        have h2 : Bv * md ≤ Bv * 9999 := Nat.mul_le_mul_left _ (by omega)
        rw [hv9, Nat.pow_succ, ← hBv] at *
        omega
      simp
      refine SWt.mk (sizes_spec hR9 (hR3.ext (hx7.tr hx8)) hD9 hD3 hT9 hT3 (by omega) (by omega)) ?_
      rintro _ H10 ⟨rfl, rfl⟩
      simp
      refine Brt.mkD (fun hc => ?_) (fun hc => ?_)
      · have hle : md * Bv ≤ vald d3 := by
          rw [Nat.mul_comm, ← hv9]
          by_cases h1 : vald d9 < vald d3
          · omega
          · rw [if_neg h1] at hc
            by_cases h2 : vald d9 = vald d3
            · omega
            · rw [if_neg h2] at hc; omega
        simp
        exact hK7 (hi' - md) _ _ _ (by omega) ⟨md, hi', rfl, by omega, hhb, by simp, by simp [h10], hx7.tr hx8, hle, hhi⟩
      · have hlt : vald d3 < md * Bv := by
          rw [Nat.mul_comm, ← hv9]
          by_cases h1 : vald d9 < vald d3
          · rw [if_pos h1] at hc; omega
          · by_cases h2 : vald d9 = vald d3
            · rw [if_neg h1, if_pos h2] at hc; omega
            · omega
        simp
        exact hK7 (md - lo) _ _ _ (by omega) ⟨lo, md, rfl, by omega, by omega, by simp [h9], by simp, hx7.tr hx8, hlo, hlt⟩
    · obtain rfl : hi' = lo + 1 := by omega
      have hlob : lo < 10000 := by omega
      have hO7 := Mono.ext (R := OwR H.length 3 1 false NR) hO2 (hx25.tr (hx6.tr hx7))
      have hx07 := hx26.tr hx7
      simp [h8, hmi, h9]
      refine tx_put (k := H.length) (e := 3) (sz := 1) (ag := false) (n := i) (R := NR) (xs := o) (a := lo) (by simpa using hO7) (by simp [h8, hmi]) (by omega) (by simp [NR, h9]) (by simpa [h9] using wh_int _) (by simp) (fun _ _ _ _ _ h => h) (by simp) (by simp) (by simp) (by decide) ?_
      rintro p8 H8 hO8 hx8 hk8 hl8 -
      simp at hO8 hk8
      have hx08 := hx8 _ (Nat.le_refl _) hx07
      have hO3' := Mono.ext (R := OwR H5.length 3 1 false NR) hO3 hx7
      have hl5 := Ext.len hx25
      have hp5 : 0 < H5.length := hO5.pos (by simp)
      have hR8 : DR H8 (.slice a3 d3.length c3) d3 := (hO3'.beside (by omega) hk8 (fun b h0 hb hb' => by
        have h1 := (hO3.ge hb h0).1
        have h2 := (hO2.ge hb' h0).2
        omega) fun _ _ h => h).row
      have hhi2 : vald d3 < (lo + 1) * Bv := hhi
      simp [h9]
      refine SWt.mk (btimes_spec (hR2.ext hx08) hD2 hT2 (by omega) (by omega)) ?_
      rintro _ H9 ⟨hx9, a9, c9, d9, rfl, hR9, hD9, hT9, hv9⟩
      rw [← hBv, Nat.mul_comm] at hv9
      simp
      refine SWt.mk (bless_spec (hR8.ext hx9) hR9 hD3 hD9 (by omega) (by omega) (hT9.len_le hD3 (by omega))) ?_
      rintro _ H10 ⟨hx10, a10, c10, d10, rfl, hR10, hD10, hv10, hl10⟩
      simp
      refine SWt.mk (lean_spec (s := false) hR10 hD10 (by omega)) ?_
      rintro _ H11 ⟨hx11, s11, a11, c11, d11, rfl, hR11, hD11, hT11, hz11, hs11⟩
      have h11 : s11 = false ∧ vald d11 = vald d10 := sgn_nn (by rw [← hz11]; simp [sgn]) hT11 hs11
      have hx811 := hx9.tr (hx10.tr hx11)
      rw [Nat.succ_mul] at hhi2
      simp [h8, hmi, hwi]
      refine hK i _ _ _ (by omega) ⟨o.set i lo, a11, c11, d11, by omega, by simp, by simp, hx08.tr hx811, Mono.ext (R := OwR _ _ _ _ NR) hO8 hx811, by simp [hol], hod.set hlob, hR11, hD11, hT11, by omega, ?_, ?_⟩
      · rw [List.take_set_of_le (Nat.le_refl i)]
        rw [vald_take_next] at ho0
        omega
      · rw [vald_drop (ds := xa) (by omega), vald_drop (ds := o.set i lo) (by simp; omega), haig, List.getElem?_set_self (by omega), List.drop_set_of_lt (by omega), h11.2, hv10, hv9]
        exact div_step hoe h3.2 hlo
  · have hm0 : m = 0 := by omega
    have hoe' : vald xa = vald o * Bv + vald rs := by rw [hm0] at hoe; simpa using hoe
    have hrl : rs.length ≤ xb.length := hTr.len_le hD2 (by omega)
    have hlq := lean_spec (s := s1) (ds := o) (a := oa) (c := oc) (H := H2) (by rw [hol]; exact hO2.row) hod (by omega)
    rw [hol] at hlq
    simp
    refine SWt.mk hlq ?_
    rintro qv H3 ⟨hx3, hq⟩
    simp [h7]
    refine SWt.mk (lean_spec (s := false) (hRr.ext hx3) hDr (by omega)) ?_
    rintro _ H4 ⟨hx4, s4, a4, c4, d4, rfl, hR4, hD4, hT4, hz4, hs4⟩
    have h4 : s4 = false ∧ vald d4 = vald rs := sgn_nn (by rw [← hz4]; simp [sgn]) hT4 hs4
    have hZ4 : ZN H4 (.agg #[.bool s4, .slice a4 d4.length c4]) (vald rs) := ⟨s4, a4, c4, d4, rfl, hR4, hD4, hT4, by rw [h4.1, h4.2]; rfl, hs4⟩
    have hx24 := hx2.tr (hx3.tr hx4)
    simp
    refine Putt.mk hq.whole ?_
    simp
    have hx5 : Ext H4 (H4 ++ [.dead, .dead]) := Ext.more H4 (by simp)
    refine ZXt.join (by kernel_rfl) (fun F6 G6 H6 => H6 = H4 ++ [.dead, .dead] ∧ F6 83 = .bool (s1 && decide (0 < d4.length))) ?_ ?_
    · rintro K2 hK2 -
      cases s1 with
      | false =>
        simp
        exact hK2 _ _ _ ⟨rfl, by simp⟩
      | true =>
        simp
        refine tx_lnR (R := NR) (xs := d4) (by simpa using hR4.ext hx5) (by simp) ?_
        simp
        exact hK2 _ _ _ ⟨rfl, by simp⟩
    · rintro F6 G6 H6 ⟨rfl, h83⟩
      simp only [mix_ap] at h83
      simp at h83
      simp [h83]
      refine Brt.mk (fun hb => ?_) (fun hb => ?_)
      · have hb2 : s1 = true ∧ 0 < d4.length := by simpa using hb
        have hrp : 0 < vald rs := by
          rcases Nat.eq_zero_or_pos (vald rs) with h | h
          · rw [← h4.2] at h
            have := hT4.zero.1 h
            rw [this] at hb2
            simp at hb2
          · exact h
        have hx46 := hx5
        have fA : FZ (N + 2) x := fx'.mono (by omega)
        have fB : FZ (N + 2) y := fy'.mono (by omega)
        have hql : vald o ≤ vald xa := by
          have : vald o * 1 ≤ vald o * Bv := Nat.mul_le_mul_left _ hBp
          omega
        have fQ : FZ (N + 2) (sgn s1 (vald o)) := fA.le (by rw [sgn_abs, hz1, sgn_abs]; exact hql)
        have fR : FZ (N + 2) (vald rs : Int) := fB.le (by omega)
        simp
        refine SWt.mk (bint_spec (v := 1) (by omega) (by omega)) ?_
        rintro u H7 ⟨hx7, hu⟩
        refine ⟨hx7, ?_⟩
        simp
        refine SWt.mk (bsub_spec (N := N + 2) (hq.ext (hx4.tr (hx5.tr hx7))) hu fQ (FZ.small (by decide) (by omega)) (by omega)) ?_
        rintro _ H8 ⟨hx8, hqz⟩
        refine ⟨hx8, ?_⟩
        simp
        have hx48 := hx5.tr (hx7.tr hx8)
        refine SWt.mk (bsub_spec (N := N + 2) (hB'.ext (hx24.tr hx48)) (hZ4.ext hx48) fB fR (by omega)) ?_
        rintro _ H9 ⟨hx9, hrz⟩
        simp
        refine Putt.mk hqz.whole ?_
        simp
        refine Putt.mk hrz.whole ?_
        simp [retOf]
        have hx09 := hx24.tr (hx48.tr hx9)
        have he : x = -((vald o * Bv + vald rs : Nat) : Int) := by rw [hz1, hb2.1, hoe']; rfl
        have hyB : y = (Bv : Int) := by omega
        have hfd : x.fdiv y = sgn s1 (vald o) - 1 ∧ x.fmod y = y - (vald rs : Int) := by
          refine fdm hy ?_ (by omega) (by omega)
          rw [he, hb2.1, hyB]
          simp only [sgn, if_true, Int.natCast_add, Int.natCast_mul]
          rw [Int.mul_sub, Int.mul_neg, Int.mul_comm (Bv : Int)]
          omega
        exact hQ _ _ ⟨hx09, _, _, rfl, by rw [hfd.1]; exact hqz.ext hx9, by rw [hfd.2]; exact hrz⟩
      · have hb2 : s1 = false ∨ d4.length = 0 := by
          cases s1 with
          | false => exact .inl rfl
          | true => simp at hb; exact .inr (by simp [hb])
        simp
        refine Putt.mk hq.whole ?_
        simp [retOf]
        have hyB : y = (Bv : Int) := by omega
        have hfd : x.fdiv y = sgn s1 (vald o) ∧ x.fmod y = (vald rs : Int) := by
          refine fdm hy ?_ (by omega) (by omega)
          rw [hz1, hoe', hyB]
          rcases hb2 with h | h
          · rw [h]
            simp only [sgn, Bool.false_eq_true, if_false, Int.natCast_add, Int.natCast_mul]
            rw [Int.mul_comm (Bv : Int)]
            omega
          · have hr0 : vald rs = 0 := by
              rw [← h4.2, List.eq_nil_of_length_eq_zero h]; rfl
            rw [hr0]
            cases s1
            · simp only [sgn, Bool.false_eq_true, if_false, Int.natCast_add, Int.natCast_mul]
              rw [Int.mul_comm (Bv : Int)]
              simp
            · simp only [sgn, if_true, Int.natCast_add, Int.natCast_mul]
              rw [Int.mul_neg, Int.mul_comm (Bv : Int)]
              simp
        exact hQ _ _ ⟨hx24.tr hx5, _, _, rfl, by rw [hfd.1]; exact hq.ext (hx4.tr hx5), by rw [hfd.2]; exact hZ4.ext hx5⟩
theorem bgcd_spec {v w : Value} {x y : Int} {N : Nat} {H : SHeap} (hA : ZN H v x) (hB : ZN H w y) (fx : FZ N x) (fy : FZ N y) (hN : N ≤ 100000000) : SW prog 69 [v, w] H (fun u H1 => Ext H H1 ∧ ZN H1 u (Int.gcd x y : Nat)) := by
  refine SW.cps fun Q hQ => ?_
  have hA' := hA
  have hB' := hB
  obtain ⟨s1, a1, c1, d1, rfl, -⟩ := hA'
  obtain ⟨s2, a2, c2, d2, rfl, -⟩ := hB'
  apply into_big_Gcd (by simp)
  simp [Z_big_Gcd]
  have hx0 : Ext H (H ++ [.dead, .dead, .dead]) := Ext.more H (by simp)
  refine SWt.mk (babs_spec (hA.ext hx0)) ?_
  rintro u H1 ⟨hx1, hu⟩
  refine ⟨hx1, ?_⟩
  try simp
  refine SWt.mk (babs_spec (hB.ext (hx0.tr hx1))) ?_
  rintro w H2 ⟨hx2, hw⟩
  try simp
  refine Putt.mk hu.whole ?_
  try simp
  refine Putt.mk hw.whole ?_
  try simp
  have hx02 := hx0.tr (hx1.tr hx2)
  refine LoopZt.mk (by kernel_rfl) (fun m F3 G3 H3 => ∃ p q : Nat, m = q ∧ Ext H2 H3 ∧ ZN H3 (G3 2) p ∧ ZN H3 (G3 3) q ∧ Nat.gcd p q = Int.gcd x y ∧ FZ N p ∧ FZ N q) y.natAbs ⟨x.natAbs, y.natAbs, rfl, Ext.refl _, by simpa using hu.ext hx2, by simpa using hw, rfl, fx.le (by simp), fy.le (by simp)⟩ ?_
  rintro m F3 G3 H3 ⟨p, q, rfl, hx3, hp, hq, hg, fp, fq⟩ K hK
  have hq' := hq
  obtain ⟨s4, a4, c4, d4, hG3, hR4, hD4, hT4, hz4, hs4⟩ := hq'
  simp at hG3 hp hq
  simp [hG3]
  refine tx_lnR (R := NR) (xs := d4) (by simpa using hR4) (by simp) ?_
  try simp
  have h4 := sgn_nn (n := m) hz4 hT4 hs4
  refine Brt.mkD (fun hlt => ?_) (fun hlt => ?_)
  · have hqp : (0 : Int) < (m : Int) := by
      rcases Nat.eq_zero_or_pos m with h | h
      · rw [← h4.2] at h
        have := hT4.zero.1 h
        rw [this] at hlt
        simp at hlt
      · omega
    try simp
    refine SWt.mk (bdivmod_spec hp hq fp fq hN hqp) ?_
    rintro _ H5 ⟨hx5, qv, rv, rfl, hqv, hrv⟩
    have hfm : ((p : Int)).fmod (m : Int) = ((p % m : Nat) : Int) := by
      rw [Int.fmod_eq_emod_of_nonneg _ (by omega)]; rfl
    rw [hfm] at hrv
    try simp
    refine Putt.mk hqv.whole ?_
    try simp
    refine Putt.mk hrv.whole ?_
    try simp
    refine Putt.mk hq.whole ?_
    try simp
    refine Putt.mk hrv.whole ?_
    try simp
    have hxd : Ext H5 (H5 ++ [.dead, .dead]) := Ext.more H5 (by simp)
    have hlt2 : p % m < m := Nat.mod_lt _ (by omega)
    refine hK (p % m) _ _ _ hlt2 ⟨m, p % m, rfl, hx3.tr (hx5.tr hxd), ?_, by simpa using hrv.ext hxd, ?_, fq, fq.le (by omega)⟩
    · simpa using hq.ext (hx5.tr hxd)
    · rw [← hg, Nat.gcd_comm p m, Nat.gcd_rec m p, Nat.gcd_comm]
  · have hm0 : m = 0 := by
      have : d4 = [] := List.eq_nil_of_length_eq_zero (by omega)
      rw [← h4.2, this]; rfl
    have hpg : p = Int.gcd x y := by rw [← hg, hm0]; simp
    try simp
    refine Putt.mk hp.whole ?_
    simp [retOf]
    exact hQ _ _ ⟨hx02.tr hx3, by rw [← hpg]; exact hp⟩
def QN (H : SHeap) (v : Value) (n d : Int) : Prop := ∃ s1 a1 n1 c1 s2 a2 n2 c2, v = .agg #[.bool s1, .slice a1 n1 c1, .bool s2, .slice a2 n2 c2] ∧ ZN H (.agg #[.bool s1, .slice a1 n1 c1]) n ∧ ZN H (.agg #[.bool s2, .slice a2 n2 c2]) d
theorem QN.ext {H H1 : SHeap} {v : Value} {n d : Int} (h : QN H v n d) (hx : Ext H H1) : QN H1 v n d := by
  obtain ⟨s1, a1, n1, c1, s2, a2, n2, c2, e, h1, h2⟩ := h
  exact ⟨s1, a1, n1, c1, s2, a2, n2, c2, e, h1.ext hx, h2.ext hx⟩
theorem QN.whole {H : SHeap} {v : Value} {n d : Int} (h : QN H v n d) : Whole prog 42 v := by
  obtain ⟨s1, a1, n1, c1, s2, a2, n2, c2, rfl, -⟩ := h
  exact ⟨by rfl, by simp [Value.cells, Value.oneCell'], by simp [isAg]⟩
theorem ZN.shape {H : SHeap} {v : Value} {z : Int} (h : ZN H v z) : ∃ s a n c, v = .agg #[.bool s, .slice a n c] := by
  obtain ⟨s, a, c, ds, h, -⟩ := h
  exact ⟨_, _, _, _, h⟩
theorem tx_frac {d : Nat} {x y : Operand} {r : List XOp} {F : Fr} {H : SHeap} {Q : Fr → SHeap → Prop} {n m : Int} {tk : Tok (bd d 42 [(0, x), (1, y)] :: r) Q} (hx : ZN H (fev F x) n) (hy : ZN H (fev F y) m)
    (K : ∀ u, QN H u n m → XWt prog r Q .mk (upd F d u) H) : XWt prog (bd d 42 [(0, x), (1, y)] :: r) Q tk F H := by
  obtain ⟨s1, a1, n1, c1, hv⟩ := hx.shape
  obtain ⟨s2, a2, n2, c2, hw⟩ := hy.shape
  have := K _ ⟨s1, a1, n1, c1, s2, a2, n2, c2, rfl, hv ▸ hx, hw ▸ hy⟩
  simp [hv, hw]
  exact this
attribute [-simp] bd_42
theorem bwhole_spec {n : Int} {H : SHeap} (h1 : -9223372036854775808 ≤ n) (h2 : n < 9223372036854775808) : SW prog 19 [.int .i64 n] H (fun u H1 => Ext H H1 ∧ QN H1 u n 1) := by
  refine SW.cps fun Q hQ => ?_
  apply into_big_Whole (by simp)
  simp [Z_big_Whole]
  have hx0 := Ext.dead H
  refine SWt.mk (bint_spec h1 h2) ?_
  rintro u H1 ⟨hx1, hu⟩
  try simp
  refine SWt.mk (bint_spec (v := 1) (by omega) (by omega)) ?_
  rintro w H2 ⟨hx2, hw⟩
  try simp
  refine tx_frac (n := n) (m := 1) (by simpa using hu.ext hx2) (by simpa using hw) ?_
  intro q hq
  try simp
  refine Putt.mk hq.whole ?_
  simp [retOf]
  exact hQ _ _ ⟨hx0.tr (hx1.tr hx2), hq⟩
theorem baddq_spec {v w : Value} {n1 d1 n2 d2 : Int} {N : Nat} {H : SHeap} (hA : QN H v n1 d1) (hB : QN H w n2 d2) (f1 : FZ N n1) (f2 : FZ N d1) (f3 : FZ N n2) (f4 : FZ N d2) (hN : N ≤ 1000000000) : SW prog 26 [v, w] H (fun u H1 => Ext H H1 ∧ QN H1 u (n1 * d2 + n2 * d1) (d1 * d2)) := by
  refine SW.cps fun Q hQ => ?_
  obtain ⟨s1, a1, l1, c1, s2, a2, l2, c2, rfl, hn1, hd1⟩ := hA
  obtain ⟨s3, a3, l3, c3, s4, a4, l4, c4, rfl, hn2, hd2⟩ := hB
  apply into_big_AddQ (by simp)
  simp [Z_big_AddQ]
  have hx0 : Ext H (H ++ [.dead, .dead, .dead]) := Ext.more H (by simp)
  refine SWt.mk (bmul_spec (hn1.ext hx0) (hd2.ext hx0) f1 f4 hN) ?_
  rintro u H1 ⟨hx1, hu⟩
  refine ⟨hx1, ?_⟩
  try simp
  have hx01 := hx0.tr hx1
  refine SWt.mk (bmul_spec (hn2.ext hx01) (hd1.ext hx01) f3 f2 hN) ?_
  rintro w H2 ⟨hx2, hw⟩
  refine ⟨hx2, ?_⟩
  try simp
  refine SWt.mk (badd_spec (N := N + N) (hu.ext hx2) hw (f1.mul f4) (f3.mul f2) (by omega)) ?_
  rintro z H3 ⟨hx3, hz⟩
  refine ⟨hx3, ?_⟩
  try simp
  have hx03 := hx01.tr (hx2.tr hx3)
  refine SWt.mk (bmul_spec (hd1.ext hx03) (hd2.ext hx03) f2 f4 hN) ?_
  rintro y H4 ⟨hx4, hy⟩
  try simp
  refine tx_frac (n := n1 * d2 + n2 * d1) (m := d1 * d2) (by simpa using hz.ext hx4) (by simpa using hy) ?_
  intro q hq
  try simp
  refine Putt.mk hq.whole ?_
  simp [retOf]
  exact hQ _ _ ⟨hx03.tr hx4, hq⟩
theorem bcmpq_spec {v w : Value} {n1 d1 n2 d2 : Int} {N : Nat} {H : SHeap} (hA : QN H v n1 d1) (hB : QN H w n2 d2) (f1 : FZ N n1) (f2 : FZ N d1) (f3 : FZ N n2) (f4 : FZ N d2) (hN : N ≤ 1000000000) : SW prog 17 [v, w] H (fun u H1 => Ext H H1 ∧ u = .int .i64 (if n1 * d2 < n2 * d1 then -1 else if n1 * d2 = n2 * d1 then 0 else 1)) := by
  refine SW.cps fun Q hQ => ?_
  obtain ⟨s1, a1, l1, c1, s2, a2, l2, c2, rfl, hn1, hd1⟩ := hA
  obtain ⟨s3, a3, l3, c3, s4, a4, l4, c4, rfl, hn2, hd2⟩ := hB
  apply into_big_CmpQ (by simp)
  simp [Z_big_CmpQ]
  have hx0 : Ext H (H ++ [.dead, .dead]) := Ext.more H (by simp)
  refine SWt.mk (bmul_spec (hn1.ext hx0) (hd2.ext hx0) f1 f4 hN) ?_
  rintro u H1 ⟨hx1, hu⟩
  refine ⟨hx1, ?_⟩
  try simp
  have hx01 := hx0.tr hx1
  refine SWt.mk (bmul_spec (hn2.ext hx01) (hd1.ext hx01) f3 f2 hN) ?_
  rintro w H2 ⟨hx2, hw⟩
  try simp
  refine SWt.mk (bcmp_spec (N := N + N) (hu.ext hx2) hw (f1.mul f4) (f3.mul f2) (by omega)) ?_
  rintro z H3 ⟨hx3, rfl⟩
  simp [retOf]
  exact hQ _ _ ⟨hx01.tr (hx2.tr hx3), rfl⟩
theorem blowest_spec {v : Value} {n d : Int} {N : Nat} {H : SHeap} (hA : QN H v n d) (hd : 0 < d) (f1 : FZ N n) (f2 : FZ N d) (hN : N ≤ 100000000) : SW prog 43 [v] H (fun u H1 => Ext H H1 ∧ QN H1 u (Rat.divInt n d).num (Rat.divInt n d).den) := by
  refine SW.cps fun Q hQ => ?_
  obtain ⟨s1, a1, l1, c1, s2, a2, l2, c2, rfl, hn1, hd1⟩ := hA
  apply into_big_Lowest (by simp)
  simp [Z_big_Lowest]
  have hx0 : Ext H (H ++ [.dead, .dead]) := Ext.more H (by simp)
  have hg0 : 0 < Int.gcd n d := Int.gcd_pos_of_ne_zero_right _ (by omega)
  have hgle : Int.gcd n d ≤ d.natAbs := Nat.le_of_dvd (by omega) (Int.gcd_dvd_natAbs_right n d)
  have fg : FZ N (Int.gcd n d : Nat) := f2.le (by simpa using hgle)
  refine SWt.mk (bgcd_spec (hn1.ext hx0) (hd1.ext hx0) f1 f2 hN) ?_
  rintro u H1 ⟨hx1, hu⟩
  try simp
  refine Putt.mk hu.whole ?_
  try simp
  have hxd1 := Ext.dead H1
  have hx01 := hx0.tr (hx1.tr hxd1)
  refine SWt.mk (bdivmod_spec (hn1.ext hx01) (hu.ext hxd1) f1 fg hN (by omega)) ?_
  rintro _ H2 ⟨hx2, q1, r1, rfl, hq1, hr1⟩
  try simp
  refine Putt.mk hq1.whole ?_
  try simp
  refine Putt.mk hr1.whole ?_
  try simp
  have hxd2 : Ext H2 (H2 ++ [.dead, .dead]) := Ext.more H2 (by simp)
  have hx12 := hx2.tr hxd2
  refine SWt.mk (bdivmod_spec (hd1.ext (hx01.tr hx12)) (hu.ext (hxd1.tr hx12)) f2 fg hN (by omega)) ?_
  rintro _ H3 ⟨hx3, q2, r2, rfl, hq2, hr2⟩
  try simp
  refine Putt.mk hq2.whole ?_
  try simp
  refine Putt.mk hr2.whole ?_
  try simp
  have hxd3 : Ext H3 (H3 ++ [.dead, .dead]) := Ext.more H3 (by simp)
  have h1 := divInt_nd n d.natAbs (by omega)
  have hdn : ((d.natAbs : Nat) : Int) = d := by omega
  rw [hdn] at h1
  have e1 : n.fdiv (Int.gcd n d : Nat) = (Rat.divInt n d).num := by
    rw [h1.1, Int.fdiv_eq_ediv_of_nonneg _ (by omega)]; rfl
  have e2 : d.fdiv (Int.gcd n d : Nat) = ((Rat.divInt n d).den : Int) := by
    rw [h1.2, Int.fdiv_eq_ediv_of_nonneg _ (by omega), Int.natCast_ediv, hdn]; rfl
  rw [e1] at hq1
  rw [e2] at hq2
  refine tx_frac (n := (Rat.divInt n d).num) (m := (Rat.divInt n d).den) (by simpa using hq1.ext (hxd2.tr (hx3.tr hxd3))) (by simpa using hq2.ext hxd3) ?_
  intro q hq
  try simp
  refine Putt.mk hq.whole ?_
  simp [retOf]
  exact hQ _ _ ⟨hx01.tr (hx12.tr (hx3.tr hxd3)), hq⟩
end Go.Sx
end
section
set_option maxRecDepth 8000
set_option maxHeartbeats 1000000
namespace Go.Sx
open Go.Proofs
open Go.Proofs.Tryz (prog)
attribute [-simp] tx_ia tx_ln tx_ix
theorem ZN.zero (H : SHeap) : ZN H (.agg #[.bool false, .slice none 0 0]) 0 := ⟨false, none, 0, [], rfl, Row.nil _ _ _ _ _, Dg.nil, TrimD.nil, rfl, fun _ => rfl⟩
theorem dval_chunk {l : List Nat} {k lo n : Nat} {ds : List Nat} (hlo : lo ≤ k) (hk : k ≤ l.length) (h4 : lo = 0 ∨ k = lo + 4) (hn : ds.length = n) (h : dval l = dval (l.take k) * 10000 ^ n + vald ds) : dval l = dval (l.take lo) * 10000 ^ (n + 1) + vald (ds ++ [dval ((l.drop lo).take (k - lo))]) := by
  have e : l.take k = l.take lo ++ (l.drop lo).take (k - lo) := by
    have := List.take_append_drop lo (l.take k)
    rw [List.take_take, Nat.min_eq_left hlo, List.drop_take] at this
    exact this.symm
  have hcl : ((l.drop lo).take (k - lo)).length = k - lo := by simp; omega
  rw [h, e, dval_append, hcl, vald_snoc, hn, Nat.add_mul]
  rcases h4 with rfl | rfl
  · simp [dval, Nat.mul_comm]; omega
  · have e1 : 10000 ^ (n + 1) = 10000 ^ n * 10000 := by rw [Nat.pow_succ]
    have e2 : (10 : Nat) ^ 4 = 10000 := by decide
    rw [show lo + 4 - lo = 4 by omega, e1, e2]
    generalize 10000 ^ n = P
    generalize dval (l.take lo) = X
    generalize dval ((l.drop lo).take 4) = C
    rw [Nat.mul_comm C P, Nat.mul_assoc, Nat.mul_comm 10000 P]
    omega
theorem digits_spec {l : List Nat} {H : SHeap} (hl : Bytes l) (hlen : l.length < 4611686018427387904) :
    SW prog 80 [.string (bs' l)] H (fun u H1 => Ext H H1 ∧ ∃ v z, u = .tuple #[v, .bool (decide (DigsOk l))] ∧ ZN H1 v z ∧ (DigsOk l → z = dval l) ∧ (¬ DigsOk l → z = 0)) := by
  refine SW.cps fun Q hQ => ?_
  apply into_big_digits (by simp)
  simp [Z_big_digits]
  have hx0 : Ext H (H ++ [.dead]) := Ext.dead H
  have fail : ∀ Hx, Ext H Hx → ¬ DigsOk l → Q (.tuple #[.agg #[.bool false, .slice none 0 0], .bool false]) Hx := fun Hx hx hno => hQ _ _ ⟨hx, _, 0, by rw [decide_eq_false hno], ZN.zero _, fun h => absurd h hno, fun _ => rfl⟩
  refine ZXt.join (by kernel_rfl) (fun F1 G1 H1 => H1 = H ++ [.dead] ∧ ∃ b, F1 25 = .bool b ∧ (b = false ↔ (l ≠ [] ∧ ¬ (l.head? = some 48 ∧ 1 < l.length) ∧ l.length ≤ 4000))) ?_ ?_
  · rintro K hK -
    simp
    refine tx_lnS (l := l) (by simp) (by rfl) ?_
    by_cases h0 : l.length < 1
    · have e0 : ((l.length : Int) < 1) = True := by simp; omega
      simp [e0]
      refine hK _ _ _ ⟨rfl, true, by simp, ?_⟩
      have : l = [] := List.eq_nil_of_length_eq_zero (by omega)
      simp [this]
    · have e0 : ((l.length : Int) < 1) = False := by simp; omega
      have hne : l ≠ [] := by rintro rfl; simp at h0
      simp [e0]
      refine tx_lnS (l := l) (by simp) (by rfl) ?_
      by_cases h1 : 4000 < l.length
      · have e1 : ((4000 : Int) < (l.length : Int)) = True := by simp; omega
        simp [e1]
        refine hK _ _ _ ⟨rfl, true, by simp, ?_⟩
        simp; omega
      · have e1 : ((4000 : Int) < (l.length : Int)) = False := by simp; omega
        simp [e1]
        refine tx_ixS (n := 0) (kk := .i64) (l := l) (by simp) hl (by simp) (by omega) (by rfl) ?_
        have hhd : l.head? = some (l[0]?.getD 0) := by
          rw [List.head?_eq_getElem?, gtE (by omega)]; rfl
        by_cases h2 : l[0]?.getD 0 = 48
        · have e2 : (((l[0]?.getD 0 : Nat) : Int) = 48) = True := by simp; omega
          simp [e2]
          refine tx_lnS (l := l) (by simp) (by rfl) ?_
          simp
          refine hK _ _ _ ⟨rfl, decide (1 < l.length), by simp; omega, ?_⟩
          rw [hhd, h2]
          simp [hne]; omega
        · have e2 : (((l[0]?.getD 0 : Nat) : Int) = 48) = False := by simp; omega
          simp [e2]
          refine hK _ _ _ ⟨rfl, false, by simp, ?_⟩
          rw [hhd]
          simp [hne, h2]; omega
  rintro F1 G1 H1 ⟨rfl, b, h25, hb⟩
  simp at h25
  simp [h25]
  refine Brt.mk (fun hb1 => ?_) (fun hb1 => ?_)
  · simp [retOf]
    refine fail _ hx0 fun h => ?_
    rw [hb.2 ⟨h.2.1, h.2.2.1, h.2.2.2⟩] at hb1
    cases hb1
  have hok := hb.1 hb1
  simp
  refine tx_lnS (l := l) (by simp) (by rfl) ?_
  simp
  refine LoopZt.mk (by kernel_rfl) (fun m F2 G2 H2 => ∃ (k : Nat) (a : Int) (ds : List Nat) (aa : Option Addr) (cc : Nat), m = k ∧ k ≤ l.length ∧ F2 5 = .int .i64 a ∧ (0 < a → a = k) ∧ (a ≤ 0 → k = 0) ∧ -4 ≤ a ∧ G2 4 = .agg #[.bool false, .slice aa ds.length cc] ∧ OwR H.length 3 1 false NR H2 (.slice aa ds.length cc) ds ∧ Dg ds ∧ (∀ c ∈ l.drop k, Digit c) ∧ dval l = dval (l.take k) * 10000 ^ ds.length + vald ds ∧ Ext H H2 ∧ ds.length ≤ l.length - k) l.length ⟨l.length, l.length, [], none, 0, rfl, Nat.le_refl _, by simp, fun _ => rfl, by omega, by omega, by simp, OwR.nil _ _ _ _ _ _, Dg.nil, by simp, by simp [vald], Ext.more H (by simp), by simp⟩ ?_
  rintro m F2 G2 H2 ⟨k, a, ds, aa, cc, rfl, hk, h5, ha1, ha2, ha3, hG4, hO, hD, hdig, hv, hx2, hdl⟩ K hK
  simp at h5 hG4
  simp [h5]
  refine Brt.mkD (fun hap => ?_) (fun hap => ?_)
  · have hak := ha1 hap
    refine Exists.elim (⟨m - 4, rfl⟩ : ∃ lo, lo = m - 4) fun lo hlo => ?_
    have hmax : (if (a - 4) > 0 then (a - 4) else 0) = (lo : Int) := by split <;> omega
    have hmax' : (if (0 : Int) < a - 4 then a - 4 else 0) = (lo : Int) := by split <;> omega
    have hmax2 : (if 4 < a then a - 4 else 0) = (lo : Int) := by split <;> omega
    have hw1 : IntKind.i64.wrap (a - 4) = a - 4 := w64 (by omega) (by omega)
    simp [h5, hw1, hmax', hmax2]
    refine LoopZt.mk (by kernel_rfl) (fun w F3 G3 H3 => ∃ i : Nat, w = m - i ∧ lo ≤ i ∧ i ≤ m ∧ F3 7 = .int .i64 (i : Int) ∧ H3 = H2 ∧ (∀ c ∈ (l.drop lo).take (i - lo), Digit c) ∧ F3 6 = .int .i64 (dval ((l.drop lo).take (i - lo)) : Nat)) (m - lo) ⟨lo, rfl, Nat.le_refl _, by omega, by simp [hmax2], rfl, by simp, by simp [dval]⟩ ?_
    rintro w F3 G3 H3 ⟨i, rfl, hli, him, h7, rfl, hdg, h6⟩ K3 hK3
    simp at h7 h6
    have hilt : ((i : Int) < a) = (i < m) := by simp; omega
    simp [h5, h7, hilt]
    have hjl : i - lo ≤ 4 := by omega
    have hpw : (10 : Nat) ^ (i - lo) ≤ 10 ^ 4 := Nat.pow_le_pow_right (by decide) hjl
    have hcb := dval_lt hdg
    have hcl : ((l.drop lo).take (i - lo)).length = i - lo := by simp; omega
    rw [hcl] at hcb
    refine Brt.mkD (fun hlt => ?_) (fun hlt => ?_)
    · have hil : i < l.length := by omega
      refine Exists.elim (⟨_, rfl⟩ : ∃ c, c = l[i]?.getD 0) fun c hc => ?_
      have hcb2 : c < 256 := by
        rw [hc, gtE hil]
        exact hl _ (List.getElem_mem hil)
      have hci : (l.drop lo)[i - lo]?.getD 0 = c := by rw [List.getElem?_drop, show lo + (i - lo) = i by omega, hc]
      try simp
      refine ZXt.join (by kernel_rfl) (fun F4 G4 H4 => H4 = H3 ∧ F4 51 = .bool (decide (¬ Digit c))) ?_ ?_
      · rintro K2 hK2 -
        simp [h7]
        refine tx_ixS (n := i) (kk := .i64) (l := l) (by simp) hl (by simp [h7]) hil (by rfl) ?_
        rw [← hc]
        rcases Nat.lt_or_ge c 48 with h1 | h1
        · have e1 : ((c : Int) < 48) = True := by simp; omega
          simp [e1]
          refine hK2 _ _ _ ⟨rfl, ?_⟩
          simp [Digit]; omega
        · have e1 : ((c : Int) < 48) = False := by simp; omega
          simp [e1, h7]
          refine tx_ixS (n := i) (kk := .i64) (l := l) (by simp) hl (by simp [h7]) hil (by rfl) ?_
          rw [← hc]
          rcases Nat.lt_or_ge 57 c with h2 | h2
          · have e2 : ((57 : Int) < c) = True := by simp; omega
            simp [e2]
            refine hK2 _ _ _ ⟨rfl, ?_⟩
            simp [Digit]; omega
          · have e2 : ((57 : Int) < c) = False := by simp; omega
            simp [e2]
            refine hK2 _ _ _ ⟨rfl, ?_⟩
            simp [Digit]; omega
      · rintro F4 G4 H4 ⟨rfl, h51⟩
        simp only [mix_ap] at h51
        simp at h51
        simp [h51]
        refine Brt.mkD (fun hg => ?_) (fun hg => ?_)
        · have hdc : 48 ≤ c ∧ c ≤ 57 := hg
          refine Exists.elim (⟨_, rfl⟩ : ∃ D, D = dval ((l.drop lo).take (i - lo))) fun D hDD => ?_
          rw [← hDD] at h6 hcb
          have hDb : D < 1000 := by
            have : (10 : Nat) ^ (i - lo) ≤ 10 ^ 3 := Nat.pow_le_pow_right (by decide) (by omega)
            omega
          have hws : IntKind.u8.wrap ((c : Int) - 48) = ((c - 48 : Nat) : Int) := by rw [wu8 (by omega) (by omega)]; omega
          have hw10 : IntKind.i64.wrap (10 * (D : Int)) = 10 * (D : Int) := w64 (by omega) (by omega)
          have hwc : IntKind.i64.wrap ((c - 48 : Nat) : Int) = ((c - 48 : Nat) : Int) := w64 (by omega) (by omega)
          have hwa : IntKind.i64.wrap (10 * (D : Int) + ((c - 48 : Nat) : Int)) = 10 * (D : Int) + ((c - 48 : Nat) : Int) := w64 (by omega) (by omega)
          have hwi : IntKind.i64.wrap ((i : Int) + 1) = ((i + 1 : Nat) : Int) := by rw [w64 (by omega) (by omega)]; simp
          simp [h6, h7, hw10]
          refine tx_ixS (n := i) (kk := .i64) (l := l) (by simp) hl (by simp [h7]) hil (by rfl) ?_
          rw [← hc]
          simp [h7, hws, hwc, hwa, hwi]
          refine hK3 (m - (i + 1)) _ _ _ (by omega) ⟨i + 1, rfl, by omega, by omega, by simp, rfl, ?_, ?_⟩
          · rw [show i + 1 - lo = (i - lo) + 1 by omega, List.take_add_one]
            intro c' hc'
            rcases List.mem_append.1 hc' with hc' | hc'
            · exact hdg c' hc'
            · rw [List.getElem?_drop, show lo + (i - lo) = i by omega, gtE hil] at hc'
              simp at hc'
              have : c = l[i] := by rw [hc, gtE hil]; rfl
              rw [hc', ← this]; exact hg
          · rw [show i + 1 - lo = (i - lo) + 1 by omega, dval_take (by simp; omega), hci, ← hDD]
            simp; omega
        · simp [retOf]
          refine fail _ hx2 fun h => hg ?_
          have : c ∈ l := by
            rw [hc, gtE hil]
            exact List.getElem_mem hil
          exact h.1 c this
    · have hie : i = m := by omega
      rw [hie] at hdg hcb h6
      refine Exists.elim (⟨_, rfl⟩ : ∃ D, D = dval ((l.drop lo).take (m - lo))) fun D hDD => ?_
      rw [← hDD] at h6 hcb
      have hpw4 : (10 : Nat) ^ (m - lo) ≤ 10 ^ 4 := Nat.pow_le_pow_right (by decide) (by omega)
      have hDb : D < 10000 := by
        have : (10 : Nat) ^ 4 = 10000 := by decide
        omega
      have hxl := Ext.len hx2
      simp [hG4, h6]
      refine tx_pushS (k := H.length) (e := 3) (sz := 1) (ag := false) (by_ := 8) (z := .int .i64 0) (R := NR) (xs := ds) (a := D) (by simpa using hO) (by simp [NR, h6]) (by simpa [h6] using wh_int _) (by simp) (fun _ _ _ _ _ h => h) (by simp) (by simp) (by simp) (by simp) (by simp) (by rfl) (by rfl) (by rfl) (by rfl) (by decide) (by decide) (by decide) (by omega) (by omega) ?_
      intro p6 a6 c6 H6 hO6 hx6 hk6
      simp [hG4, h5, hw1]
      refine hK lo _ _ _ (by omega) ⟨lo, a - 4, ds ++ [D], a6, c6, rfl, by omega, by simp, fun h => by omega, fun h => by omega, by omega, by simp, by simpa using hO6, hD.snoc hDb, ?_, ?_, hx6 _ (Nat.le_refl _) hx2, by simp; omega⟩
      · intro c' hc'
        have e : l.drop lo = (l.drop lo).take (m - lo) ++ l.drop m := by
          have := List.take_append_drop (m - lo) (l.drop lo)
          rw [List.drop_drop, show lo + (m - lo) = m by omega] at this
          exact this.symm
        rw [e] at hc'
        rcases List.mem_append.1 hc' with hc' | hc'
        · exact hdg c' hc'
        · exact hdig c' hc'
      · rw [List.length_append, List.length_singleton, hDD]
        exact dval_chunk (by omega) hk (by omega) rfl hv
  · have hk0 := ha2 (by omega)
    rw [hk0] at hdig hv
    simp [dval] at hdig
    have hDO : DigsOk l := ⟨hdig, hok⟩
    simp [hG4]
    refine SWt.mk (lean_spec (s := false) hO.row hD (by omega)) ?_
    rintro u H3 ⟨hx3, hu⟩
    simp
    refine Putt.mk hu.whole ?_
    simp [retOf]
    refine hQ _ _ ⟨hx2.tr hx3, _, _, by rw [decide_eq_true hDO], hu, fun _ => ?_, fun h => absurd hDO h⟩
    rw [hv]
    simp [sgn, dval]
theorem tx_four {d1 d2 : Nat} {x0 x1 x2 x3 : Operand} {r : List XOp} {F : Fr} {H : SHeap} {Q : Fr → SHeap → Prop} {n0 n1 n2 n3 : Int} {tk : Tok (bs d1 61 4 [(0, x0), (1, x1), (2, x2), (3, x3)] :: cv d2 61 9 (T d1) :: r) Q} (h0 : fev F x0 = .int .u8 n0) (h1 : fev F x1 = .int .u8 n1) (h2 : fev F x2 = .int .u8 n2) (h3 : fev F x3 = .int .u8 n3)
    (K : ∀ p H', Ext H H' → XWt prog r Q .mk (upd (upd F d1 p) d2 (.string (strOfNums [n0, n1, n2, n3]))) H') : XWt prog (bs d1 61 4 [(0, x0), (1, x1), (2, x2), (3, x3)] :: cv d2 61 9 (T d1) :: r) Q tk F H := by
  refine tx_bs (e := 5) (sz := 1) (z := .int .u8 0) (out := [.int .u8 n0, .int .u8 n1, .int .u8 n2, .int .u8 n3]) (by simp) (by simp) (by rfl) (by rfl) (by rfl) (by decide) (by decide) (by decide) ?_ (by rfl) ?_
  · simp only [List.map_cons, List.map_nil, h0, h1, h2, h3]
    rfl
  · have hS : Sl (H ++ [.own 5 false [.int .u8 n0, .int .u8 n1, .int .u8 n2, .int .u8 n3]]) 5 1 (fev (upd F d1 (.slice (some ⟨H.length, 0, none⟩) 4 4)) (T d1)) ([n0, n1, n2, n3] : List Int).length (([n0, n1, n2, n3] : List Int).map (Value.int .u8)) :=
      ⟨some ⟨H.length, 0, none⟩, 4, by simp, Nat.le_refl _, rfl, fun _ => ⟨H.length, 0, .own 5 false [.int .u8 n0, .int .u8 n1, .int .u8 n2, .int .u8 n3], [.int .u8 n0, .int .u8 n1, .int .u8 n2, .int .u8 n3], rfl, by simp, rfl, rfl, by simp, by simp⟩⟩
    refine tx_cvb (e := 5) (by simp) (by rfl) (by rfl) hS ?_
    exact K _ _ ((Ext.refl H).snoc _ _ _)
def f4 (d : Nat) : List Nat := [48 + d / 1000, 48 + d / 100 % 10, 48 + d / 10 % 10, 48 + d % 10]
def figs (ds : List Nat) : List Nat := (ds.reverse.map f4).flatten
theorem f4_digit {d : Nat} (h : d < 10000) : ∀ c ∈ f4 d, Digit c := by
  intro c hc
  simp [f4] at hc
  unfold Digit
  omega
theorem f4_val {d : Nat} (h : d < 10000) : dval (f4 d) = d := by
  simp [f4, dval]
  omega
theorem figs_cons (d : Nat) (ds : List Nat) : figs (d :: ds) = figs ds ++ f4 d := by simp [figs]
theorem figs_digit {ds : List Nat} (h : Dg ds) : ∀ c ∈ figs ds, Digit c := by
  induction ds with
  | nil => simp [figs]
  | cons d ds ih =>
    rw [figs_cons]
    intro c hc
    rcases List.mem_append.1 hc with hc | hc
    · exact ih (fun x hx => h x (by simp [hx])) c hc
    · exact f4_digit (h d (by simp)) c hc
theorem figs_val {ds : List Nat} (h : Dg ds) : dval (figs ds) = vald ds := by
  induction ds with
  | nil => simp [figs, dval, vald]
  | cons d ds ih =>
    rw [figs_cons, dval_append, ih fun x hx => h x (by simp [hx]), f4_val (h d (by simp))]
    simp [f4, vald]
    omega
theorem Digit.bytes {l : List Nat} (h : ∀ c ∈ l, Digit c) : Bytes l := fun c hc => by
  have := h c hc
  unfold Digit at this
  omega
theorem dval_snoc (l : List Nat) (c : Nat) : dval (l ++ [c]) = dval l * 10 + (c - 48) := by
  rw [dval_append]; simp [dval]
theorem dval_head {l : List Nat} (h : ∀ c ∈ l, Digit c) (hn : l ≠ []) (hh : l.head? ≠ some 48) : 0 < dval l := by
  cases l with
  | nil => exact absurd rfl hn
  | cons c r =>
    rw [dval_cons]
    have h1 := h c (by simp)
    have h2 : c ≠ 48 := fun e => hh (by simp [e])
    unfold Digit at h1
    have h3 : 1 * 10 ^ r.length ≤ (c - 48) * 10 ^ r.length := Nat.mul_le_mul_right _ (by omega)
    have h4 := Nat.pow_pos (n := r.length) (show 0 < 10 by decide)
    omega
theorem rdec_rev : ∀ (k : Nat) (l : List Nat), l.length = k → (∀ c ∈ l, Digit c) → l.head? ≠ some 48 → rdec (dval l) = l.reverse
  | 0, l, hk, _, _ => by
    have : l = [] := List.eq_nil_of_length_eq_zero hk
    subst this
    simp [dval, rdec_zero]
  | k + 1, l, hk, h, hh => by
    have hne : l ≠ [] := by rintro rfl; simp at hk
    have hp := dval_head h hne hh
    obtain ⟨a, c, rfl⟩ : ∃ a c, l = a ++ [c] := ⟨l.dropLast, l.getLast hne, (List.dropLast_concat_getLast hne).symm⟩
    have hc := h c (by simp)
    unfold Digit at hc
    have ih := rdec_rev k a (by simpa using hk) (fun x hx => h x (by simp [hx])) (fun e => hh (by
      cases a with
      | nil => simp at e
      | cons x a => simpa using e))
    rw [dval_snoc] at hp ⊢
    rw [rdec_pos hp, List.reverse_append]
    have e1 : (dval a * 10 + (c - 48)) % 10 = c - 48 := by omega
    have e2 : (dval a * 10 + (c - 48)) / 10 = dval a := by omega
    rw [e1, e2, ih]
    simp
    omega
theorem dec_unique {l : List Nat} (h : ∀ c ∈ l, Digit c) (hn : l ≠ []) (hh : l.head? ≠ some 48) : l = dec (dval l) := by
  have hp := dval_head h hn hh
  unfold dec
  rw [if_neg (by omega), rdec_rev l.length l rfl h hh, List.reverse_reverse]
theorem figures_spec {v : Value} {n N : Nat} {H : SHeap} (hZ : ZN H v n) (fn : FZ N n) (hN : N ≤ 100000000) : SW prog 52 [v] H (fun u H1 => Ext H H1 ∧ u = .string (bs' (dec n))) := by
  refine SW.cps fun Q hQ => ?_
  obtain ⟨s, a, c, ds, rfl, hR, hD, hT, hz, hs⟩ := hZ
  have hl := fn.len hT hz
  have hsv := sgn_nn hz hT hs
  clear fn
  apply into_big_figures (by simp)
  simp [Z_big_figures]
  have hx0 : Ext H (H ++ [.dead]) := Ext.dead H
  have lit0 : ({ data := #[] } : ByteArray) = bs' [] := rfl
  have lit48 : ({ data := #[48] } : ByteArray) = bs' [48] := rfl
  refine tx_lnR (R := NR) (xs := ds) (by simpa using hR.ext hx0) (by simp) ?_
  simp
  refine Brt.mkD (fun h0 => ?_) (fun h0 => ?_)
  · have h0 : ds = [] := by simpa using h0
    have hn0 : n = 0 := by rw [← hsv.2, h0]; rfl
    simp [retOf]
    exact hQ _ _ ⟨hx0, by rw [lit48, hn0]; rfl⟩
  · have h0 : ds ≠ [] := by simpa using h0
    have hnp : 0 < n := by
      rcases Nat.eq_zero_or_pos n with h | h
      · rw [h] at hsv; exact absurd (hT.zero.1 hsv.2) h0
      · exact h
    have hwl : IntKind.i64.wrap ((ds.length : Int) - 1) = (ds.length : Int) - 1 := w64 (by omega) (by omega)
    simp
    refine tx_lnR (R := NR) (xs := ds) (by simpa using hR.ext hx0) (by simp) ?_
    simp [hwl, lit0]
    refine LoopZt.mk (by kernel_rfl) (fun m F1 G1 H1 => m ≤ ds.length ∧ F1 4 = .int .i64 ((m : Int) - 1) ∧ F1 3 = .string (bs' (figs (ds.drop m))) ∧ Ext H H1) ds.length ⟨Nat.le_refl _, by simp, by simp [figs], hx0⟩ ?_
    rintro m F1 G1 H1 ⟨hm, h4, h3, hx1⟩ K hK
    simp at h4 h3
    simp [h4]
    refine Brt.mkD (fun hge => ?_) (fun hge => ?_)
    · refine Exists.elim (⟨m - 1, by omega⟩ : ∃ i : Nat, m = i + 1) fun i hi => ?_
      have hmi : (m : Int) - 1 = (i : Int) := by omega
      have hwi : IntKind.i64.wrap ((i : Int) - 1) = (i : Int) - 1 := w64 (by omega) (by omega)
      refine Exists.elim (⟨_, gtE (show i < ds.length by omega)⟩ : ∃ d, ds[i]? = some d) fun d hd => ?_
      have hdb : d < 10000 := by
        have := hD.get i
        rw [hd] at this; exact this
      have hfl : (figs (ds.drop m)).length ≤ 4 * ds.length := by
        have : ∀ l : List Nat, (figs l).length = 4 * l.length := fun l => by
          induction l with
          | nil => rfl
          | cons x l ih => rw [figs_cons, List.length_append, ih]; simp [f4]; omega
        rw [this]; simp; omega
      have q1 : IntKind.i64.wrap ((d : Int).tdiv 1000) = ((d / 1000 : Nat) : Int) := by rw [show (d : Int).tdiv 1000 = ((d / 1000 : Nat) : Int) from rfl]; exact w64 (by omega) (by omega)
      have q2 : IntKind.i64.wrap ((d : Int).tdiv 100) = ((d / 100 : Nat) : Int) := by rw [show (d : Int).tdiv 100 = ((d / 100 : Nat) : Int) from rfl]; exact w64 (by omega) (by omega)
      have q3 : IntKind.i64.wrap ((d : Int).tdiv 10) = ((d / 10 : Nat) : Int) := by rw [show (d : Int).tdiv 10 = ((d / 10 : Nat) : Int) from rfl]; exact w64 (by omega) (by omega)
      simp [h4, hmi]
      refine tx_elem (R := NR) (xs := ds) (n := i) (a := d) (e := 3) (sz := 1) (ag := false) (by simpa using hR.ext hx1) (by simp [h4, hmi]) hd (by simp) (by simp) (by simp) (by decide) ?_
      rintro p2 u2 rfl
      have p1 : IntKind.i64.wrap ((d : Int) / 1000) = (d : Int) / 1000 := w64 (by omega) (by omega)
      have p2 : IntKind.i64.wrap ((d : Int) / 100) = (d : Int) / 100 := w64 (by omega) (by omega)
      have p3 : IntKind.i64.wrap ((d : Int) / 10) = (d : Int) / 10 := w64 (by omega) (by omega)
      have m2 : ((d : Int) / 100).tmod 10 = (d : Int) / 100 % 10 := Int.tmod_eq_emod_of_nonneg (by omega)
      have m3 : ((d : Int) / 10).tmod 10 = (d : Int) / 10 % 10 := Int.tmod_eq_emod_of_nonneg (by omega)
      have m4 : (d : Int).tmod 10 = (d : Int) % 10 := Int.tmod_eq_emod_of_nonneg (by omega)
      have w1 : IntKind.i64.wrap (48 + (d : Int) / 1000) = 48 + (d : Int) / 1000 := w64 (by omega) (by omega)
      have w2 : IntKind.i64.wrap (48 + (d : Int) / 100 % 10) = 48 + (d : Int) / 100 % 10 := w64 (by omega) (by omega)
      have w3 : IntKind.i64.wrap (48 + (d : Int) / 10 % 10) = 48 + (d : Int) / 10 % 10 := w64 (by omega) (by omega)
      have w4 : IntKind.i64.wrap (48 + (d : Int) % 10) = 48 + (d : Int) % 10 := w64 (by omega) (by omega)
      have u1 : IntKind.u8.wrap (48 + (d : Int) / 1000) = 48 + (d : Int) / 1000 := wu8 (by omega) (by omega)
      have u2 : IntKind.u8.wrap (48 + (d : Int) / 100 % 10) = 48 + (d : Int) / 100 % 10 := wu8 (by omega) (by omega)
      have u3 : IntKind.u8.wrap (48 + (d : Int) / 10 % 10) = 48 + (d : Int) / 10 % 10 := wu8 (by omega) (by omega)
      have u4 : IntKind.u8.wrap (48 + (d : Int) % 10) = 48 + (d : Int) % 10 := wu8 (by omega) (by omega)
      simp [p1, p2, p3, m2, m3, m4, w1, w2, w3, w4, u1, u2, u3, u4]
      refine tx_four (n0 := ((48 + d / 1000 : Nat) : Int)) (n1 := ((48 + d / 100 % 10 : Nat) : Int)) (n2 := ((48 + d / 10 % 10 : Nat) : Int)) (n3 := ((48 + d % 10 : Nat) : Int)) (by simp) (by simp) (by simp) (by simp) ?_
      intro pp H5 hx5
      have hst : strOfNums [((48 + d / 1000 : Nat) : Int), ((48 + d / 100 % 10 : Nat) : Int), ((48 + d / 10 % 10 : Nat) : Int), ((48 + d % 10 : Nat) : Int)] = bs' (f4 d) := strOfNums_bs (f4 d)
      rw [hst]
      have hcat := cat_bs (a := figs (ds.drop m)) (b := f4 d) (by have : (f4 d).length = 4 := rfl; omega)
      simp [h3, h4, hmi, hwi, hcat]
      refine hK i _ _ _ (by omega) ⟨by omega, by simp, ?_, hx1.tr hx5⟩
      have hdd : ds.drop i = d :: ds.drop m := by
        rw [show ds.drop m = ds.drop (i + 1) by rw [hi], List.drop_eq_getElem_cons (show i < ds.length by omega)]
        congr 1
        exact (gsI.1 hd).2
      rw [hdd, figs_cons]
      simp
    · have hm0 : m = 0 := by omega
      rw [hm0] at h3
      simp at h3
      have hfd := figs_digit hD
      have hfv := figs_val hD
      rw [hsv.2] at hfv
      try simp
      refine LoopZt.mk (by kernel_rfl) (fun w F2 G2 H2 => ∃ t : List Nat, w = t.length ∧ F2 3 = .string (bs' t) ∧ H2 = H1 ∧ (∀ c ∈ t, Digit c) ∧ dval t = n ∧ t.length ≤ (figs ds).length) (figs ds).length ⟨figs ds, rfl, by simp [h3], rfl, hfd, hfv, Nat.le_refl _⟩ ?_
      rintro w F2 G2 H2 ⟨t, rfl, h3', rfl, htd, htv, htl⟩ K2 hK2
      simp at h3'
      have htne : t ≠ [] := by rintro rfl; simp [dval] at htv; omega
      have htp : 0 < t.length := List.length_pos_iff.2 htne
      have hhd : t.head? = some (t[0]?.getD 0) := by
        rw [List.head?_eq_getElem?, gtE htp]; rfl
      simp [h3']
      refine tx_ixS (n := 0) (kk := .i64) (l := t) (by simp [h3']) (Digit.bytes htd) (by simp) htp (by rfl) ?_
      simp
      refine Brt.mk (fun hc => ?_) (fun hc => ?_)
      · have hc : t[0]?.getD 0 = 48 := by have := hc; simp at this; omega
        simp [h3']
        refine tx_sls (s := bs' t) (l := 1) (h := t.length) (by simp [h3']) (by rfl) (by simp [loOf]) (by simp [hiOf, bs_size]) (by omega) (by rw [bs_size]; omega) ?_
        have hdt : (t.drop 1).take (t.length - 1) = t.tail := by
          rw [List.drop_one, List.take_of_length_le (by simp)]
        simp only [bs_extract, hdt]
        try simp
        have htt : t = 48 :: t.tail := by
          cases t with
          | nil => exact absurd rfl htne
          | cons x r => simp at hc; rw [hc]; rfl
        refine hK2 t.tail.length _ _ _ (by simp; omega) ⟨t.tail, rfl, by simp, rfl, fun c hc => htd c (List.mem_of_mem_tail hc), ?_, by simp; omega⟩
        rw [← htv]
        conv => rhs; rw [htt, dval_cons]
        simp
      · have hc : t[0]?.getD 0 ≠ 48 := by have := hc; simp at this; omega
        simp [h3', retOf]
        refine hQ _ _ ⟨hx1, ?_⟩
        have := dec_unique htd htne (by rw [hhd]; simpa using hc)
        rw [htv] at this
        rw [← this]
theorem ZN.minus {H : SHeap} {s : Bool} {a : Option Addr} {n c : Nat} {z : Int} (h : ZN H (.agg #[.bool s, .slice a n c]) z) : s = decide (z < 0) := by
  obtain ⟨s', a', c', ds, he, hR, hD, hT, hz, hs⟩ := h
  simp at he
  obtain ⟨rfl, -⟩ := he
  cases s with
  | false => simp [sgn] at hz; simp; omega
  | true =>
    have : vald ds ≠ 0 := fun h => by
      have := hs (hT.zero.1 h)
      cases this
    simp [sgn] at hz
    simp; omega
theorem dec_one {n : Nat} : dec n = [49] ↔ n = 1 := by
  constructor
  · intro h
    unfold dec at h
    split at h
    · cases h
    · rename_i h0
      have hp : 0 < n := by omega
      rw [rdec_pos hp] at h
      have h1 : rdec (n / 10) = [] := by
        have := congrArg List.length h
        simp at this
        exact this
      have h2 : n / 10 = 0 := by
        rcases Nat.eq_zero_or_pos (n / 10) with h2 | h2
        · exact h2
        · rw [rdec_pos h2] at h1; cases h1
      rw [h1] at h
      simp at h
      omega
  · rintro rfl
    unfold dec
    rw [if_neg (by decide), rdec_pos (by decide), show 1 / 10 = 0 from rfl, rdec_zero]
    rfl
theorem figuresA_spec {v : Value} {n N : Nat} {A : List Nat} {H : SHeap} (hA : A = dec n) (hZ : ZN H v n) (fn : FZ N n) (hN : N ≤ 100000000) : SW prog 52 [v] H (fun u H1 => Ext H H1 ∧ u = .string (bs' A)) := by
  subst hA
  exact figures_spec hZ fn hN
theorem blowestq_spec {v : Value} {n d : Int} {N : Nat} {q : Rat} {H : SHeap} (hq : q = Rat.divInt n d) (hA : QN H v n d) (hd : 0 < d) (f1 : FZ N n) (f2 : FZ N d) (hN : N ≤ 100000000) : SW prog 43 [v] H (fun u H1 => Ext H H1 ∧ QN H1 u q.num q.den) := by
  subst hq
  exact blowest_spec hA hd f1 f2 hN
theorem bnum_spec {v : Value} {n d : Int} {N : Nat} {H : SHeap} (hA : QN H v n d) (hd : 0 < d) (f1 : FZ N n) (f2 : FZ N d) (hN : N ≤ 100000000) : SW prog 21 [v] H (fun u H1 => Ext H H1 ∧ u = if NumOk (Rat.divInt n d) then .tuple #[.string (bs' (numStr (Rat.divInt n d))), .bool true] else .tuple #[.string (bs' []), .bool false]) := by
  refine SW.cps fun Q hQ => ?_
  have hA0 := hA
  obtain ⟨s1, a1, l1, c1, s2, a2, l2, c2, rfl, hn1, hd1⟩ := hA
  obtain ⟨q, hq⟩ : ∃ q, q = Rat.divInt n d := ⟨_, rfl⟩
  have hnd := divInt_nd n d.natAbs (by omega)
  have hdn : ((d.natAbs : Nat) : Int) = d := by omega
  rw [hdn, ← hq] at hnd
  have hQ : ∀ (v : Value) (H1 : SHeap), Ext H H1 ∧ v = (if NumOk q then .tuple #[.string (bs' (numStr q)), .bool true] else .tuple #[.string (bs' []), .bool false]) → Q v H1 := fun v H1 h => hQ v H1 (by rw [hq] at h; exact h)
  have fqn : FZ N q.num := f1.le (by
    rw [hnd.1, Int.natAbs_ediv_of_dvd (Int.ofNat_dvd_left.2 (Nat.gcd_dvd_left _ _))]
    exact Nat.div_le_self _ _)
  have fqd : FZ N (q.den : Int) := f2.le (by
    rw [hnd.2]
    have := Nat.div_le_self d.natAbs (Nat.gcd n.natAbs d.natAbs)
    simp; omega)
  obtain ⟨A, hA⟩ : ∃ A, A = dec q.num.natAbs := ⟨_, rfl⟩
  obtain ⟨D, hD⟩ : ∃ D, D = dec q.den := ⟨_, rfl⟩
  apply into_big_Num (by simp)
  simp [Z_big_Num]
  have hx0 : Ext H (H ++ [.dead]) := Ext.dead H
  have lit0 : ({ data := #[] } : ByteArray) = bs' [] := rfl
  have lit45 : ({ data := #[45] } : ByteArray) = bs' [45] := rfl
  have lit47 : ({ data := #[47] } : ByteArray) = bs' [47] := rfl
  have lit49 : ({ data := #[49] } : ByteArray) = bs' [49] := rfl
  refine SWt.mk (blowestq_spec hq (hA0.ext hx0) hd f1 f2 hN) ?_
  rintro _ H1 ⟨hx1, s3, a3, l3, c3, s4, a4, l4, c4, rfl, hn3, hd3⟩
  have hs3 := hn3.minus
  simp
  refine SWt.mk (babs_spec hn3) ?_
  rintro u H2 ⟨hx2, hu⟩
  refine ⟨hx2, ?_⟩
  simp
  refine SWt.mk (figuresA_spec hA hu (fqn.le (by simp)) hN) ?_
  rintro _ H3 ⟨hx3, rfl⟩
  refine ⟨hx3, ?_⟩
  simp
  refine SWt.mk (figuresA_spec hD (hd3.ext (hx2.tr hx3)) fqd hN) ?_
  rintro _ H4 ⟨hx4, rfl⟩
  have hx04 := hx0.tr (hx1.tr (hx2.tr (hx3.tr hx4)))
  have hAb : Bytes A := hA ▸ dec_bytes _
  have hDb : Bytes D := hD ▸ dec_bytes _
  have hok : NumOk q ↔ A.length ≤ 4000 ∧ D.length ≤ 4000 := by
    unfold NumOk
    rw [← hA, ← hD]
    constructor
    · rintro ⟨h1, h2 | h2⟩
      · refine ⟨h1, ?_⟩
        rw [hD, dec_one.2 h2]; decide
      · exact ⟨h1, h2⟩
    · rintro ⟨h1, h2⟩
      exact ⟨h1, .inr h2⟩
  have hD1 : D = [49] ↔ q.den = 1 := by rw [hD]; exact dec_one
  try simp
  refine ZXt.join (by kernel_rfl) (fun F5 G5 H5 => H5 = H4 ∧ F5 22 = .bool (!decide (NumOk q))) ?_ ?_
  · rintro K hK -
    simp
    refine tx_lnS (l := A) (by simp) (by rfl) ?_
    by_cases hal : 4000 < A.length
    · have e1 : ((4000 : Int) < (A.length : Int)) = True := by simp; omega
      simp [e1]
      refine hK _ _ _ ⟨rfl, ?_⟩
      have h : ¬ NumOk q := by rw [hok]; omega
      simp [h]
    · have e1 : ((4000 : Int) < (A.length : Int)) = False := by simp; omega
      simp [e1]
      refine tx_lnS (l := D) (by simp) (by rfl) ?_
      simp
      refine hK _ _ _ ⟨rfl, ?_⟩
      by_cases hdl : 4000 < D.length
      · have h : ¬ NumOk q := by rw [hok]; omega
        simp [h]; omega
      · have h : NumOk q := by rw [hok]; omega
        simp [h]; omega
  rintro F5 G5 H5 ⟨rfl, h22⟩
  simp only [mix_ap] at h22
  simp at h22
  simp [h22]
  refine Brt.mkD (fun hk => ?_) (fun hk => ?_)
  · have hal := (hok.1 hk).1
    have hdl := (hok.1 hk).2
    have hcat1 := cat_bs (a := [45]) (b := A) (by simp; omega)
    refine ZXt.join (by kernel_rfl) (fun F6 G6 H6 => H6 = H5 ∧ F6 4 = .string (bs' ((if q.num < 0 then [45] else []) ++ A))) ?_ ?_
    · rintro K hK -
      simp
      rw [hs3]
      refine Brt.mkD (fun hneg => ?_) (fun hneg => ?_)
      · simp [lit45, hcat1]
        refine hK _ _ _ ⟨rfl, ?_⟩
        simp [hneg]
      · try simp
        refine hK _ _ _ ⟨rfl, ?_⟩
        simp [hneg]
    · rintro F6 G6 H6 ⟨rfl, h4⟩
      simp only [mix_ap] at h4
      simp at h4
      refine Exists.elim (⟨_, rfl⟩ : ∃ S, S = (if q.num < 0 then [45] else []) ++ A) fun S hS => ?_
      rw [← hS] at h4
      have hSl : S.length ≤ 4001 := by
        rw [hS, List.length_append]
        split <;> simp <;> omega
      have hcat2 := cat_bs (a := [47]) (b := D) (by simp; omega)
      have hcat3 := cat_bs (a := S) (b := 47 :: D) (by simp; omega)
      have hbeq : ((bs' D).toList == (bs' [49]).toList) = decide (D = [49]) := bs_beq hDb (by intro x hx; simp at hx; omega)
      refine ZXt.join (by kernel_rfl) (fun F7 G7 H7 => H7 = H6 ∧ F7 4 = .string (bs' (numStr q))) ?_ ?_
      · rintro K hK -
        simp [lit49, hbeq]
        refine Brt.mkD (fun h1 => ?_) (fun h1 => ?_)
        · try simp
          refine hK _ _ _ ⟨rfl, ?_⟩
          have : q.den = 1 := hD1.1 h1
          unfold numStr
          rw [if_pos this, ← hA, List.append_nil, ← hS]
          simp [h4]
        · have : ¬ q.den = 1 := fun h => h1 (hD1.2 h)
          simp [h4, lit47, hcat2, hcat3]
          refine hK _ _ _ ⟨rfl, ?_⟩
          unfold numStr
          rw [if_neg this, ← hA, ← hS, ← hD]
          simp
      · rintro F7 G7 H7 ⟨rfl, h4'⟩
        simp only [mix_ap] at h4'
        simp at h4'
        simp [h4', retOf]
        exact hQ _ _ ⟨hx04, by rw [if_pos hk]⟩
  · simp [retOf]
    exact hQ _ _ ⟨hx04, by rw [if_neg hk]; rfl⟩
theorem cutL_at {c : Nat} {l u : List Nat} (h : (cutL c l).2 = some u) : l.take (cutL c l).1.length = (cutL c l).1 ∧ l.drop ((cutL c l).1.length + 1) = u ∧ (cutL c l).1.length < l.length := by
  have e := cutL_some h
  obtain ⟨o, ho⟩ : ∃ o, o = (cutL c l).1 := ⟨_, rfl⟩
  rw [← ho] at e ⊢
  rw [e]
  simp
theorem cutL_end {c : Nat} {l : List Nat} (h : (cutL c l).2 = none) : (cutL c l).1.length = l.length := by rw [cutL_none h]
theorem parts_text (l : List Nat) : (cutL 47 (tailL 45 l)).1 = digsL l ∧ (cutL 47 (tailL 45 l)).2 = underL l ∧ decide (l.head? = some 45) = minusL l := by
  unfold digsL underL minusL overL tailL
  cases l with
  | nil => simp [cutL]
  | cons c r =>
    by_cases h : c = 45
    · subst h
      simp [cutL]
    · by_cases h2 : c = 47
      · subst h2
        simp [cutL]
      · simp [cutL, h, h2]
theorem parse_len {l : List Nat} (h : ParseOk l) : l.length ≤ 8002 := by
  obtain ⟨h1, h2, -⟩ := h
  obtain ⟨p1, p2, -⟩ := parts_text l
  have hd := h1.2.2.2
  have ht : l.length ≤ (tailL 45 l).length + 1 := by
    unfold tailL
    split
    · simp; omega
    · omega
  cases hu : underL l with
  | none =>
    have := cutL_end (c := 47) (l := tailL 45 l) (by rw [p2, hu])
    rw [p1] at this
    omega
  | some u =>
    have h3 := (h2 u hu).1.2.2.2
    have h4 := cutL_some (c := 47) (l := tailL 45 l) (by rw [p2, hu])
    rw [p1] at h4
    have := congrArg List.length h4
    simp at this
    omega
theorem FZ.dval {l : List Nat} (h : DigsOk l) : FZ 1000 (Go.Sx.dval l : Int) := by
  unfold FZ
  rw [Int.natAbs_natCast]
  have h1 := dval_lt h.1
  have h2 := pwR 10 l.length 4000 (by decide) h.2.2.2
  have h3 := pwE 10 4 1000 4000 (by decide)
  have h4 : (10 : Nat) ^ 4 = 10000 := by decide
  rw [h4] at h3
  rw [← h3]
  exact Nat.lt_of_lt_of_le h1 h2
theorem QN.zero (H : SHeap) : QN H (.agg #[.bool false, .slice none 0 0, .bool false, .slice none 0 0]) 0 0 := ⟨false, none, 0, 0, false, none, 0, 0, rfl, ZN.zero H, ZN.zero H⟩
theorem cutL_pre (c : Nat) (l : List Nat) : l.take (cutL c l).1.length = (cutL c l).1 := by
  cases h : (cutL c l).2 with
  | none => rw [cutL_none h, List.take_length]
  | some u => exact (cutL_at h).1
theorem numL_gcd (l : List Nat) (d : Int) : Int.gcd (numL l) d = Int.gcd (dval (digsL l)) d := by
  unfold numL
  split
  · rw [Int.neg_gcd]
  · rfl
theorem bparse_spec {l : List Nat} {H : SHeap} (hl : Bytes l) (hlen : l.length < 4611686018427387904) :
    SW prog 54 [.string (bs' l)] H (fun u H1 => Ext H H1 ∧ ∃ v n d b, u = .tuple #[v, .bool b] ∧ (b = true ↔ ParseOk l) ∧ QN H1 v n d ∧ (ParseOk l → n = numL l ∧ d = denL l)) := by
  refine SW.cps fun Q hQ => ?_
  obtain ⟨t, ht⟩ : ∃ t, t = tailL 45 l := ⟨_, rfl⟩
  obtain ⟨p1, p2, p3⟩ := parts_text l
  rw [← ht] at p1 p2
  have htB : Bytes t := ht ▸ hl.tail
  have htl : t.length ≤ l.length := by
    rw [ht]; unfold tailL
    split
    · simp
    · exact Nat.le_refl _
  apply into_big_Parse (by simp)
  simp [Z_big_Parse]
  have hx0 : Ext H (H ++ [.dead]) := Ext.dead H
  have fail : ∀ Hx, Ext H Hx → ¬ ParseOk l → Q (.tuple #[.agg #[.bool false, .slice none 0 0, .bool false, .slice none 0 0], .bool false]) Hx := fun Hx hx hno => hQ _ _ ⟨hx, _, 0, 0, false, rfl, ⟨fun h => (by cases h), fun h => absurd h hno⟩, QN.zero _, fun h => absurd h hno⟩
  refine tx_lnS (l := l) (by simp) (by rfl) ?_
  simp
  refine Brt.mkD (fun hlong => ?_) (fun hlong => ?_)
  · simp [retOf]
    exact fail _ hx0 fun h => by have := parse_len h; omega
  · refine ZXt.join (by kernel_rfl) (fun F1 G1 H1 => H1 = H ++ [.dead] ∧ F1 4 = .string (bs' t) ∧ F1 5 = .bool (minusL l)) ?_ ?_
    · rintro K hK -
      rw [tzx_seq]
      refine ZXt.join (by kernel_rfl) (fun F1 G1 H1 => H1 = H ++ [.dead] ∧ F1 25 = .bool (decide (l.head? = some 45))) ?_ ?_
      · rintro K2 hK2 -
        simp
        refine tx_lnS (l := l) (by simp) (by rfl) ?_
        by_cases h0 : 0 < l.length
        · have e0 : ((0 : Int) < (l.length : Int)) = True := by simp; omega
          have hhd : l.head? = some (l[0]?.getD 0) := by
            rw [List.head?_eq_getElem?, gtE h0]; rfl
          simp [h0]
          refine tx_ixS (n := 0) (kk := .i64) (l := l) (by simp) hl (by simp) h0 (by rfl) ?_
          simp
          refine hK2 _ _ _ ⟨rfl, ?_⟩
          rw [hhd]
          simp; omega
        · have : l = [] := List.eq_nil_of_length_eq_zero (by omega)
          simp [this]
          refine hK2 _ _ _ ⟨rfl, by simp [this]⟩
      · rintro F1 G1 H1 ⟨rfl, h25⟩
        simp only [mix_ap] at h25
        simp at h25
        simp [h25]
        refine Brt.mkD (fun hc => ?_) (fun hc => ?_)
        · have hlp : 0 < l.length := by
            cases l with
            | nil => simp at hc
            | cons x r => simp
          simp
          refine tx_sls (s := bs' l) (l := 1) (h := l.length) (by simp) (by rfl) (by simp [loOf]) (by simp [hiOf, bs_size]) (by omega) (by rw [bs_size]; omega) ?_
          have htt : (l.drop 1).take (l.length - 1) = t := by
            rw [ht, tailL, if_pos hc, List.drop_one, List.take_of_length_le (by simp)]
          simp only [bs_extract, htt]
          simp
          refine hK _ _ _ ⟨rfl, by simp, ?_⟩
          rw [← p3, decide_eq_true hc]; simp
        · have htt : t = l := by rw [ht, tailL, if_neg hc]
          try simp
          refine hK _ _ _ ⟨rfl, by simp [htt], ?_⟩
          rw [← p3, decide_eq_false hc]; simp
    · rintro F1 G1 H1 ⟨rfl, h4, h5⟩
      simp at h4 h5
      simp [h4]
      refine tx_lnS (l := t) (by simp [h4]) (by rfl) ?_
      simp [h4]
      refine tx_lnS (l := t) (by simp [h4]) (by rfl) ?_
      have hwl : IntKind.i64.wrap ((t.length : Int) - 1) = (t.length : Int) - 1 := w64 (by omega) (by omega)
      simp [hwl]
      refine LoopZt.mk (by kernel_rfl) (fun m F2 G2 H2 => m ≤ t.length ∧ F2 7 = .int .i64 ((m : Int) - 1) ∧ H2 = H ++ [.dead] ∧ F2 6 = .int .i64 ((m + (cutL 47 (t.drop m)).1.length : Nat) : Int)) t.length ⟨Nat.le_refl _, by simp, rfl, by simp [cutL]⟩ ?_
      rintro m F2 G2 H2 ⟨hm, h7, rfl, h6⟩ K hK
      simp at h7 h6
      simp [h7]
      refine Brt.mkD (fun hge => ?_) (fun hge => ?_)
      · refine Exists.elim (⟨m - 1, by omega⟩ : ∃ i : Nat, m = i + 1) fun i hi => ?_
        have hmi : (m : Int) - 1 = (i : Int) := by omega
        have hwi : IntKind.i64.wrap ((i : Int) - 1) = (i : Int) - 1 := w64 (by omega) (by omega)
        have hil : i < t.length := by omega
        have hdd : t.drop i = t[i] :: t.drop m := by rw [hi, List.drop_eq_getElem_cons hil]
        refine ZXt.join (by kernel_rfl) (fun F3 G3 H3 => H3 = H ++ [.dead] ∧ F3 6 = .int .i64 ((i + (cutL 47 (t.drop i)).1.length : Nat) : Int)) ?_ ?_
        · rintro K2 hK2 -
          simp [h4, h7, hmi]
          refine tx_ixS (n := i) (kk := .i64) (l := t) (by simp [h4]) htB (by simp [h7, hmi]) hil (by rfl) ?_
          simp
          have hget : t[i]?.getD 0 = t[i] := by rw [gtE hil]; rfl
          refine Brt.mk (fun hc => ?_) (fun hc => ?_)
          · have hc : t[i] = 47 := by have := hc; simp [hil] at this; omega
            simp [h7, hmi]
            refine hK2 _ _ _ ⟨rfl, ?_⟩
            rw [hdd]
            simp [cutL, hc]
          · have hc : t[i] ≠ 47 := by have := hc; simp [hil] at this; omega
            try simp
            refine hK2 _ _ _ ⟨rfl, ?_⟩
            rw [hdd]
            simp [cutL, hc, h6]
            omega
        · rintro F3 G3 H3 ⟨rfl, h6'⟩
          simp at h6'
          simp [h7, hmi, hwi]
          refine hK i _ _ _ (by omega) ⟨by omega, by simp, rfl, ?_⟩
          simpa using h6'
      · have hm0 : m = 0 := by omega
        rw [hm0] at h6
        simp [p1] at h6
        have hpre := cutL_pre 47 t
        rw [p1] at hpre
        have hdl : (digsL l).length ≤ t.length := by rw [← hpre]; simp; omega
        have hdB : Bytes (digsL l) := by rw [← hpre]; exact fun x hx => htB x (List.mem_of_mem_take hx)
        simp [h4, h6]
        refine tx_sls (s := bs' t) (l := 0) (h := (digsL l).length) (by simp [h4]) (by rfl) (by simp [loOf]) (by simp [hiOf, h6]) (by omega) (by rw [bs_size]; omega) ?_
        have htt : (t.drop 0).take ((digsL l).length - 0) = digsL l := by simpa using hpre
        simp only [bs_extract, htt]
        try simp
        refine SWt.mk (digits_spec hdB (by omega)) ?_
        rintro _ H8 ⟨hx8, _, z8, rfl, ⟨s8, a8, c8, ds8, rfl, hR8, hD8, hT8, hz8, hs8⟩, hok8, hno8⟩
        have hZ8 : ZN H8 (.agg #[.bool s8, .slice a8 ds8.length c8]) z8 := ⟨s8, a8, c8, ds8, rfl, hR8, hD8, hT8, hz8, hs8⟩
        have f8 : FZ 1000 z8 := by
          by_cases hd : DigsOk (digsL l)
          · rw [hok8 hd]; exact FZ.dval hd
          · rw [hno8 hd]; exact FZ.small (by decide) (by decide)
        try simp
        have hx9 := Ext.dead H8
        refine SWt.mk (bint_spec (v := 1) (by omega) (by omega)) ?_
        rintro w10 H10 ⟨hx10, hw10⟩
        try simp
        refine Putt.mk hw10.whole ?_
        try simp
        have hx11 := Ext.dead H10
        have hx811 := hx9.tr (hx10.tr hx11)
        have hx011 := hx0.tr (hx8.tr hx811)
        refine ZXt.join (by kernel_rfl) (fun F12 G12 H12 => Ext (H10 ++ [.dead]) H12 ∧ ZN H12 (G12 10) (denL l) ∧ DenOk l ∧ (underL l = none ∨ Int.gcd z8 (denL l) = 1) ∧ FZ 1000 (denL l)) ?_ ?_
        · rintro K2 hK2 hK2e
          simp [h6]
          refine tx_lnS (l := t) (by simp [h4]) (by rfl) ?_
          try simp
          cases hu : underL l with
          | none =>
            have he := cutL_end (c := 47) (l := t) (by rw [p2, hu])
            rw [p1] at he
            have e1 : ¬ (digsL l).length < t.length := by omega
            have hden : denL l = 1 := by unfold denL; rw [hu]
            refine Brt.mkD (fun hlt => absurd hlt (by omega)) (fun _ => ?_)
            refine hK2 _ _ _ ⟨Ext.refl _, ?_, fun u hu' => (by rw [hu] at hu'; cases hu'), .inl hu, by rw [hden]; exact FZ.small (by decide) (by decide)⟩
            rw [hden]
            simpa using hw10.ext hx11
          | some u =>
            have hat := cutL_at (c := 47) (l := t) (u := u) (by rw [p2, hu])
            rw [p1] at hat
            have hden : denL l = dval u := by unfold denL; rw [hu]
            have huB : Bytes u := by rw [← hat.2.1]; exact fun x hx => htB x (List.mem_of_mem_drop hx)
            have hul : u.length ≤ t.length := by rw [← hat.2.1]; simp
            have hws : IntKind.i64.wrap (((digsL l).length : Int) + 1) = (((digsL l).length + 1 : Nat) : Int) := by rw [w64 (by omega) (by omega)]; simp
            refine Brt.mkD (fun _ => ?_) (fun hlt => absurd (show ((digsL l).length : Int) < (t.length : Int) by omega) (by omega))
            simp [h4, h6, hws]
            refine tx_sls (s := bs' t) (l := (digsL l).length + 1) (h := t.length) (by simp [h4]) (by rfl) (by simp [loOf]; omega) (by simp [hiOf, bs_size]) (by omega) (by rw [bs_size]; omega) ?_
            have htu : (t.drop ((digsL l).length + 1)).take (t.length - ((digsL l).length + 1)) = u := by
              rw [hat.2.1, List.take_of_length_le]
              rw [← hat.2.1]; simp
            simp only [bs_extract, htu]
            try simp
            refine SWt.mk (digits_spec huB (by omega)) ?_
            rintro _ H13 ⟨hx13, v13, z13, rfl, hZ13, hok13, hno13⟩
            have f13 : FZ 1000 z13 := by
              by_cases hd : DigsOk u
              · rw [hok13 hd]; exact FZ.dval hd
              · rw [hno13 hd]; exact FZ.small (by decide) (by decide)
            try simp
            refine Putt.mk hZ13.whole ?_
            try simp
            have hx14 := Ext.dead H13
            refine ZXt.join (by kernel_rfl) (fun F15 G15 H15 => Ext (H13 ++ [.dead]) H15 ∧ ∃ bad, F15 77 = .bool bad ∧ (bad = false ↔ DigsOk u ∧ 2 ≤ z13 ∧ Int.gcd z8 z13 = 1)) ?_ ?_
            · rintro K3 hK3 -
              by_cases hdu : DigsOk u
              · simp [hdu]
                refine SWt.mk (bint_spec (v := 2) (by omega) (by omega)) ?_
                rintro w15 H15 ⟨hx15, hw15⟩
                refine ⟨hx15, ?_⟩
                try simp
                refine SWt.mk (bcmp_spec (N := 1000) (hZ13.ext (hx14.tr hx15)) hw15 f13 (FZ.small (by decide) (by decide)) (by decide)) ?_
                rintro _ H16 ⟨hx16, rfl⟩
                have hx1316 := hx14.tr (hx15.tr hx16)
                by_cases hlt : z13 < 2
                · simp [hlt]
                  exact hK3 _ _ _ ⟨hx15.tr hx16, true, by simp, by simp; omega⟩
                · have hng : ¬ ((if z13 < 2 then (-1 : Int) else if z13 = 2 then 0 else 1) < 0) := by
                    rw [if_neg hlt]; split <;> omega
                  simp [hng]
                  refine SWt.mk (bgcd_spec (N := 1000) (hZ8.ext (hx811.tr (hx13.tr hx1316))) (hZ13.ext hx1316) f8 f13 (by decide)) ?_
                  rintro w17 H17 ⟨hx17, hw17⟩
                  try simp
                  refine SWt.mk (bint_spec (v := 1) (by omega) (by omega)) ?_
                  rintro w18 H18 ⟨hx18, hw18⟩
                  try simp
                  have fg : FZ 1000 (Int.gcd z8 z13 : Nat) := f13.le (by
                    have := Nat.le_of_dvd (by omega) (Int.gcd_dvd_natAbs_right z8 z13)
                    simpa using this)
                  refine SWt.mk (bcmp_spec (N := 1000) (hw17.ext hx18) hw18 fg (FZ.small (by decide) (by decide)) (by decide)) ?_
                  rintro _ H19 ⟨hx19, rfl⟩
                  try simp
                  refine hK3 _ _ _ ⟨hx15.tr (hx16.tr (hx17.tr (hx18.tr hx19))), decide (Int.gcd z8 z13 ≠ 1), ?_, ?_⟩
                  · have hgp : 0 < Int.gcd z8 z13 := Int.gcd_pos_of_ne_zero_right _ (by omega)
                    by_cases hg1 : Int.gcd z8 z13 = 1
                    · simp [hg1]
                    · simp [hg1, show ¬ (((Int.gcd z8 z13 : Nat) : Int) < 1) by omega, show ¬ (((Int.gcd z8 z13 : Nat) : Int) = 1) by omega]
                  · simp [hdu]; omega
              · simp [hdu]
                exact hK3 _ _ _ ⟨Ext.refl _, true, by simp, by simp [hdu]⟩
            · rintro F15 G15 H15 ⟨hx15, bad, h77, hbad⟩
              simp only [mix_ap] at h77
              simp at h77
              simp [h77]
              refine Brt.mk (fun hb => ?_) (fun hb => ?_)
              · simp
                refine hK2e _ _ _ _ (by simp) ?_
                simp [retOf]
                refine fail _ (hx011.tr (hx13.tr (hx14.tr hx15))) fun hp => ?_
                obtain ⟨q1, q2, q3, q4⟩ := hp
                have hdu := (q2 u hu).1
                have hgt := (q2 u hu).2
                have hg : Int.gcd z8 z13 = 1 := by
                  rcases q4 with h | h
                  · rw [hu] at h; cases h
                  · rw [numL_gcd, hden, ← hok8 q1] at h
                    rw [hok13 hdu]; exact h
                have := hbad.2 ⟨hdu, by rw [hok13 hdu]; omega, hg⟩
                rw [this] at hb
                cases hb
              · have hg := hbad.1 hb
                have hz13 := hok13 hg.1
                have h2 := hg.2.1
                have h3 := hg.2.2
                simp
                refine Putt.mk hZ13.whole ?_
                try simp
                refine hK2 _ _ _ ⟨hx13.tr (hx14.tr hx15), ?_, fun u' hu' => ?_, .inr ?_, ?_⟩
                · rw [hden, ← hz13]
                  simpa using hZ13.ext (hx14.tr hx15)
                · rw [hu] at hu'
                  have := Option.some.inj hu'
                  subst this
                  exact ⟨hg.1, by omega⟩
                · rw [hden, ← hz13]; exact h3
                · rw [hden, ← hz13]; exact f13
        · rintro F12 G12 H12 ⟨hx12, hd12, hDen, hgcd, fden⟩
          simp at hd12
          have hx812 := hx811.tr hx12
          have hx012 := hx011.tr hx12
          have hl8 : DigsOk (digsL l) → (z8 = 0 ↔ ds8 = []) := fun hd => by
            have h1 := sgn_nn (n := dval (digsL l)) (by rw [← hz8]; exact (hok8 hd).symm) hT8 hs8
            rw [hok8 hd, ← hT8.zero, h1.2]
            omega
          try simp only [tzx_seq]
          refine ZXt.join (by kernel_rfl) (fun F15 G15 H15 => H15 = H12 ∧ ∃ bad, F15 90 = .bool bad ∧ (bad = false ↔ DigsOk (digsL l) ∧ ¬ (minusL l = true ∧ z8 = 0))) ?_ ?_
          · rintro K3 hK3 -
            by_cases hd : DigsOk (digsL l)
            · cases hmn : minusL l with
              | false =>
                rw [hmn] at h5
                simp [hd, h5]
                exact hK3 _ _ _ ⟨rfl, false, by simp, by simp [hd, hmn]⟩
              | true =>
                rw [hmn] at h5
                simp [hd, h5]
                refine tx_lnR (R := NR) (xs := ds8) (by simpa using hR8.ext hx812) (by simp) ?_
                simp
                refine hK3 _ _ _ ⟨rfl, decide (ds8 = []), by simp, ?_⟩
                simp [hd, hmn, hl8 hd]
            · simp [hd]
              exact hK3 _ _ _ ⟨rfl, true, by simp, by simp [hd]⟩
          · rintro F15 G15 H15 ⟨rfl, bad, h90, hbad⟩
            simp only [mix_ap] at h90
            simp at h90
            simp [h90]
            refine Brt.mk (fun hb => ?_) (fun hb => ?_)
            · simp [retOf]
              refine fail _ hx012 fun hp => ?_
              obtain ⟨q1, q2, q3, q4⟩ := hp
              have := hbad.2 ⟨q1, by rw [hok8 q1]; intro h; exact q3 ⟨h.1, by omega⟩⟩
              rw [this] at hb
              cases hb
            · have hg := hbad.1 hb
              have hz := hok8 hg.1
              have hP : ParseOk l := ⟨hg.1, hDen, by rw [hz] at hg; intro h; exact hg.2 ⟨h.1, by omega⟩, by
                rcases hgcd with h | h
                · exact .inl h
                · refine .inr ?_
                  rw [numL_gcd, ← hz]; exact h⟩
              have hnum : (if minusL l = true then -z8 else z8) = numL l := by
                unfold numL
                rw [hz]
              refine ZXt.join (by kernel_rfl) (fun F16 G16 H16 => Ext H15 H16 ∧ ZN H16 (G16 8) (numL l)) ?_ ?_
              · rintro K4 hK4 -
                simp [h5]
                refine Brt.mk (fun hm1 => ?_) (fun hm1 => ?_)
                · simp
                  refine SWt.mk (bneg_spec (hZ8.ext hx812)) ?_
                  rintro w17 H17 ⟨hx17, hw17⟩
                  simp
                  refine Putt.mk hw17.whole ?_
                  try simp
                  refine hK4 _ _ _ ⟨hx17, ?_⟩
                  rw [← hnum, if_pos hm1]
                  simpa using hw17
                · try simp
                  refine hK4 _ _ _ ⟨Ext.refl _, ?_⟩
                  rw [← hnum, if_neg (by simp [hm1])]
                  simpa using hZ8.ext hx812
              · rintro F16 G16 H16 ⟨hx16, hn16⟩
                simp at hn16
                simp [-bd_42]
                refine tx_frac (n := numL l) (m := denL l) (by simpa using hn16) (by simpa using hd12.ext hx16) ?_
                intro q hq
                simp
                refine Putt.mk hq.whole ?_
                simp [retOf]
                exact hQ _ _ ⟨hx012.tr hx16, q, _, _, true, rfl, ⟨fun _ => hP, fun _ => rfl⟩, hq, fun _ => ⟨rfl, rfl⟩⟩
theorem bvalid_spec {l : List Nat} {H : SHeap} (hl : Bytes l) (hlen : l.length < 4611686018427387904) :
    SW prog 25 [.string (bs' l)] H (fun u H1 => Ext H H1 ∧ ∃ b, u = .bool b ∧ (b = true ↔ ParseOk l)) := by
  refine SW.cps fun Q hQ => ?_
  apply into_big_Valid (by simp)
  simp [Z_big_Valid]
  refine SWt.mk (bparse_spec hl hlen) ?_
  rintro _ H1 ⟨hx1, q, n, d, b, rfl, hb, hq, hnd⟩
  simp
  refine Putt.mk hq.whole ?_
  simp [retOf]
  exact hQ _ _ ⟨hx1.tr (Ext.dead H1), b, rfl, hb⟩
theorem bof_spec {l : List Nat} {H : SHeap} (hl : Bytes l) (hlen : l.length < 4611686018427387904) :
    SW prog 23 [.string (bs' l)] H (fun u H1 => Ext H H1 ∧ ∃ n d, QN H1 u n d ∧ (ParseOk l → n = numL l ∧ d = denL l)) := by
  refine SW.cps fun Q hQ => ?_
  apply into_big_Of (by simp)
  simp [Z_big_Of]
  have hx0 := Ext.dead H
  refine SWt.mk (bparse_spec hl hlen) ?_
  rintro _ H1 ⟨hx1, q, n, d, b, rfl, hb, hq, hnd⟩
  simp
  refine Putt.mk hq.whole ?_
  try simp
  refine Putt.mk hq.whole ?_
  simp [retOf]
  exact hQ _ _ ⟨hx0.tr (hx1.tr (Ext.dead H1)), n, d, hq.ext (Ext.dead H1), hnd⟩
theorem FZ.den {l : List Nat} (h : ParseOk l) : FZ 1000 (denL l : Int) := by
  unfold denL
  cases hu : underL l with
  | none => exact FZ.small (by decide) (by decide)
  | some u => exact FZ.dval (h.2.1 u hu).1
theorem FZ.num {l : List Nat} (h : ParseOk l) : FZ 1000 (numL l) := by
  unfold numL
  split
  · exact (FZ.dval h.1).neg
  · exact FZ.dval h.1
theorem binteger_spec {l : List Nat} {H : SHeap} (hl : Bytes l) (hlen : l.length < 4611686018427387904) :
    SW prog 42 [.string (bs' l)] H (fun u H1 => Ext H H1 ∧ ∃ b, u = .bool b ∧ (b = true ↔ ParseOk l ∧ denL l = 1)) := by
  refine SW.cps fun Q hQ => ?_
  apply into_big_Integer (by simp)
  simp [Z_big_Integer]
  refine SWt.mk (bparse_spec hl hlen) ?_
  rintro _ H1 ⟨hx1, _, n, d, b, rfl, hb, ⟨s1, a1, l1, c1, s2, a2, l2, c2, rfl, hn1, hd1⟩, hnd⟩
  have hxd := Ext.dead H1
  simp [tzx_box]
  cases b with
  | false =>
    have hno : ¬ ParseOk l := fun h => by have := hb.2 h; cases this
    simp [retOf]
    exact hQ _ _ ⟨hx1.tr hxd, false, rfl, by simp [hno]⟩
  | true =>
    have hP := hb.1 rfl
    have hd := (hnd hP).2
    simp
    refine SWt.mk (bint_spec (v := 1) (by omega) (by omega)) ?_
    rintro w2 H2 ⟨hx2, hw2⟩
    refine ⟨hx2, ?_⟩
    try simp
    refine SWt.mk (bcmp_spec (N := 1000) (hd1.ext (hxd.tr hx2)) hw2 (by rw [hd]; exact FZ.den hP) (FZ.small (by decide) (by decide)) (by decide)) ?_
    rintro _ H3 ⟨hx3, rfl⟩
    simp [retOf]
    refine hQ _ _ ⟨hx1.tr (hxd.tr (hx2.tr hx3)), _, rfl, ?_⟩
    rw [hd]
    have hdp : 0 < denL l ∨ denL l = 0 := by omega
    by_cases h1 : denL l = 1
    · simp [h1, hP]
    · by_cases h0 : ((denL l : Nat) : Int) < 1
      · simp [h0, h1]
      · simp [h0, h1]
        omega
theorem cutI_spec {v : Value} {l : List Int} {H : SHeap} (hI : IRow H v l) :
    SW prog 30 [v, .int .i64 9] H (fun u H1 => Ext H H1 ∧ IRow H1 u (l.take 9)) := by
  refine SW.cps fun Q hQ => ?_
  apply into_law_cut (by simp)
  have hmn : (if (l.length : Int) < 9 then (l.length : Int) else 9) = ((min l.length 9 : Nat) : Int) := by split <;> omega
  simp [Z_law_cut]
  refine tx_bs0 (e := 3) (sz := 1) (by simp) (by simp) ?_
  simp
  refine tx_lnR (R := IR) (xs := l) (by simpa using hI) (by simp) ?_
  simp
  refine tx_slR (e := 3) (sz := 1) (ag := false) (R := IR) (xs := l) (l := 0) (h := min l.length 9) (by simpa using hI) (by simp) (by simp) (by decide) (by simp [loOf]) (by simp [hiOf]; split <;> omega) (by omega) (by omega) ?_
  intro v3 hv3
  have e3 : (l.drop 0).take (min l.length 9 - 0) = l.take 9 := by
    rw [List.drop_zero, Nat.sub_zero]
    by_cases h : l.length ≤ 9
    · rw [Nat.min_eq_left h, List.take_length, List.take_of_length_le h]
    · rw [Nat.min_eq_right (by omega)]
  rw [e3] at hv3
  refine tx_apR (k := H.length) (e := 3) (sz := 1) (ag := false) (by_ := 8) (z := .int .i64 0) (R := IR) (xs := []) (ys := l.take 9) (by simpa using OwR.void _ _ _ _ _ _ _) (by simpa using hv3) (fun u y h => by rw [show u = _ from h]; exact wh_int y) (fun H' s' u y hk h => h) (by simp) (by simp) (by simp) (by simp) (by decide) (by rfl) (by rfl) (by rfl) (by decide) (by simp; omega) (Nat.le_refl _) ?_
  intro w H4 hO4 hx4 hk4
  simp [retOf]
  exact hQ _ _ ⟨hx4 _ (Nat.le_refl _) (Ext.refl _), by simpa using hO4.row⟩
def cutT (x : List (List Int)) : List (List Int) := (x.take 9).map (·.take 9)
theorem table_spec {v : Value} {x : List (List Int)} {H : SHeap} (hI : ITab H v x) :
    SW prog 8 [v] H (fun u H1 => Ext H H1 ∧ ITab H1 u (cutT x)) := by
  refine SW.cps fun Q hQ => ?_
  apply into_law_table (by simp)
  simp [Z_law_table]
  refine tx_bs0 (e := 34) (sz := 1) (by simp) (by simp) ?_
  simp
  refine LoopZt.mk (by kernel_rfl) (fun m F1 G1 H1 => ∃ i : Nat, m = x.length - i ∧ i ≤ x.length ∧ i ≤ 9 ∧ F1 4 = .int .i64 (i : Int) ∧ Ext H H1 ∧ OwR H.length 34 1 false IRow H1 (F1 3) ((x.take i).map (·.take 9))) x.length ⟨0, by omega, by omega, by omega, by simp, Ext.refl _, by simpa using OwR.void _ _ _ _ _ _ _⟩ ?_
  rintro m F1 G1 H1 ⟨i, rfl, hi, hi9, h4, hx1, hO⟩ K hK
  simp at h4 hO
  have hI1 := Mono.ext (R := ITab) hI hx1
  simp only [tzx_seq]
  refine ZXt.join (by kernel_rfl) (fun F2 G2 H2 => H2 = H1 ∧ F2 13 = .bool (decide (i < x.length ∧ i ≤ 8))) ?_ ?_
  · rintro K2 hK2 -
    simp [h4]
    refine tx_lnR (R := IRow) (xs := x) (by simpa using hI1) (by simp) ?_
    by_cases hlt : i < x.length
    · simp [hlt, h4]
      exact hK2 _ _ _ ⟨rfl, by simp [hlt]; omega⟩
    · simp [hlt, h4]
      exact hK2 _ _ _ ⟨rfl, by simp [hlt]⟩
  · rintro F2 G2 H2 ⟨rfl, h13⟩
    simp only [mix_ap] at h13
    simp at h13
    simp [h13]
    refine Brt.mk (fun hb => ?_) (fun hb => ?_)
    · simp at hb
      refine Exists.elim (⟨_, gtE hb.1⟩ : ∃ p, x[i]? = some p) fun row hrow => ?_
      simp [h4]
      refine tx_elem (R := IRow) (xs := x) (n := i) (a := row) (e := 34) (sz := 1) (ag := false) (by simpa using hI1) (by simp [h4]) hrow (by simp) (by simp) (by simp) (by decide) ?_
      rintro p5 u5 hu5
      try simp
      refine SWt.mk (cutI_spec hu5) ?_
      rintro u6 H6 ⟨hx6, hu6⟩
      have hlen := Ext.len (hx1.tr hx6)
      try simp
      refine tx_push (k := H.length) (e := 34) (sz := 1) (ag := false) (by_ := 24) (z := .slice none 0 0) (R := IRow) (xs := (x.take i).map (·.take 9)) (a := row.take 9) (by simpa using Mono.ext (R := OwR _ _ _ _ IRow) hO hx6) (by simpa using hu6) (by simpa using hu6.whole) (by simp) (fun H' s' u y hk h => h.kept hk (by decide)) (by simp) (by simp) (by simp) (by simp) (by simp) (by rfl) (by rfl) (by rfl) (by rfl) (by decide) (by decide) (by decide) (by simp; omega) (by omega) ?_
      intro p7 v7 H7 hO7 hx7 hk7
      have hw : IntKind.i64.wrap ((i : Int) + 1) = ((i + 1 : Nat) : Int) := by rw [w64 (by omega) (by omega)]; omega
      simp [h4, hw]
      refine hK (x.length - (i + 1)) _ _ _ (by omega) ⟨i + 1, rfl, by omega, by omega, by simp, hx7 _ (Nat.le_refl _) (hx1.tr hx6), ?_⟩
      rw [List.take_add_one, hrow]
      simpa using hO7
    · simp at hb
      simp [retOf]
      refine hQ _ _ ⟨hx1, ?_⟩
      have : x.take i = x.take 9 := by
        by_cases h : i < x.length
        · have := hb h; rw [show i = 9 by omega]
        · rw [List.take_of_length_le (by omega), List.take_of_length_le (by omega)]
      unfold cutT
      rw [← this, List.map_take]
      exact hO.row
theorem wok {i : Nat} (h : i < 4611686018427387904) : IntKind.i64.wrap ((i : Int) + 1) = ((i + 1 : Nat) : Int) := by rw [w64 (by omega) (by omega)]; omega
theorem validT_iff {t : List (List Int)} : ValidT t ↔ (1 ≤ t.length ∧ t.length ≤ 8) ∧ ∀ r ∈ t, (r.length = (t[0]?.getD []).length ∧ 1 ≤ r.length ∧ r.length ≤ 8) ∧ ∀ x ∈ r, 0 ≤ x ∧ x ≤ 1000 := by
  constructor
  · intro h
    have hl := h.len
    obtain ⟨h1, h2, h3, h4, h5⟩ := h
    refine ⟨⟨h1, h2⟩, fun r hr => ?_⟩
    have e := hl r hr
    refine ⟨⟨e, by omega, by omega⟩, fun x hx => ?_⟩
    have := h5 r hr
    unfold badRow at this
    simp at this
    have := this.2 x hx
    omega
  · rintro ⟨⟨h1, h2⟩, h⟩
    have h0 : t[0]?.getD [] ∈ t := by rw [gtE (by omega)]; exact List.getElem_mem (by omega)
    have := (h _ h0).1
    refine ⟨h1, h2, this.2.1, this.2.2, fun r hr => ?_⟩
    have := h r hr
    unfold badRow
    simp
    exact ⟨this.1.1, fun x hx => by have := this.2 x hx; omega⟩
theorem tableR_spec {v : Value} {t : List (List Int)} {H : SHeap} (hI : ITab H v t) (hl : t.length < 4611686018427387904) (hr : ∀ r ∈ t, r.length < 4611686018427387904) :
    SW prog 11 [v] H (fun u H1 => H1 = H ∧ u = .bool (decide (ValidT t))) := by
  refine SW.cps fun Q hQ => ?_
  have no : ∀ {r x}, r ∈ t → x ∈ r → ¬ (0 ≤ x ∧ x ≤ 1000) → Q (.bool false) H := fun hr hx h => hQ _ _ ⟨rfl, by
    have : ¬ ValidT t := fun hv => h (((validT_iff.1 hv).2 _ hr).2 _ hx)
    simp [this]⟩
  apply into_ref_Table (by simp)
  simp [Z_ref_Table]
  refine LoopZt.mk (by kernel_rfl) (fun m F1 G1 H1 => ∃ i : Nat, m = t.length - i ∧ i ≤ t.length ∧ F1 3 = .int .i64 (i : Int) ∧ H1 = H ∧ ∀ r ∈ t.take i, (r.length = (t[0]?.getD []).length ∧ 1 ≤ r.length ∧ r.length ≤ 8) ∧ ∀ x ∈ r, 0 ≤ x ∧ x ≤ 1000) t.length ⟨0, by omega, by omega, by simp, rfl, by simp⟩ ?_
  rintro m F1 G1 H1 ⟨i, rfl, hi, h3, rfl, hall⟩ K hK
  simp at h3
  simp [h3]
  refine tx_lnR (R := IRow) (xs := t) (by simpa using hI) (by simp) ?_
  simp
  refine Brt.mkD (fun hlt => ?_) (fun hlt => ?_)
  · refine Exists.elim (⟨_, gtE hlt⟩ : ∃ p, t[i]? = some p) fun row hrow => ?_
    refine Exists.elim (⟨_, gtE (show 0 < t.length by omega)⟩ : ∃ p, t[0]? = some p) fun row0 hrow0 => ?_
    have hmem := List.mem_of_getElem? hrow
    have hrl := hr _ hmem
    have hw := wok (show i < 4611686018427387904 by omega)
    try simp only [tzx_seq]
    refine ZXt.join (by kernel_rfl) (fun F2 G2 H2 => H2 = H1 ∧ F2 29 = .bool (decide (¬ (row.length = row0.length ∧ 1 ≤ row.length ∧ row.length ≤ 8)))) ?_ ?_
    · rintro K2 hK2 -
      simp [h3]
      refine tx_elem (R := IRow) (xs := t) (n := i) (a := row) (e := 34) (sz := 1) (ag := false) (by simpa using hI) (by simp [h3]) hrow (by simp) (by simp) (by simp) (by decide) ?_
      rintro p5 u5 hu5
      try simp
      refine tx_lnR (R := IR) (xs := row) (by simpa using hu5) (by simp) ?_
      try simp
      refine tx_elem (R := IRow) (xs := t) (n := 0) (a := row0) (e := 34) (sz := 1) (ag := false) (by simpa using hI) (by simp) hrow0 (by simp) (by simp) (by simp) (by decide) ?_
      rintro p6 u6 hu6
      try simp
      refine tx_lnR (R := IR) (xs := row0) (by simpa using hu6) (by simp) ?_
      by_cases he : row.length = row0.length
      · simp [he, h3]
        refine tx_elemg (R := IRow) (xs := t) (n := i) (a := row) (e := 34) (sz := 1) (ag := false) (by simp) (by decide) (by simpa using hI) (by simp [h3]) hrow (by simp) (by simp) (by simp) (by decide) ?_
        rintro p7 u7 hu7
        try simp
        refine tx_lnR (R := IR) (xs := row) (by simpa using hu7) (by simp) ?_
        try simp
        refine SWt.mk in_spec ?_
        rintro _ _ ⟨rfl, rfl⟩
        try simp
        refine hK2 _ _ _ ⟨rfl, ?_⟩
        simp [he]
        generalize row0.length = z
        rw [Bool.eq_iff_iff]
        simp
        omega
      · have he' : ¬ ((row.length : Int) = row0.length) := by omega
        simp [he', h3]
        exact hK2 _ _ _ ⟨rfl, by simp [he]⟩
    · rintro F2 G2 H2 ⟨rfl, h29⟩
      simp only [mix_ap] at h29
      simp at h29
      simp [h29]
      refine Brt.mk (fun hb => ?_) (fun hb => ?_)
      · have hb2 : ¬ (row.length = row0.length ∧ 1 ≤ row.length ∧ row.length ≤ 8) := fun h => by
          obtain ⟨h1, h2, h3⟩ := h
          rw [h1] at hb
          rw [h1] at h2 h3
          generalize row0.length = z at hb h2 h3
          simp at hb
          omega
        simp [retOf]
        refine hQ _ _ ⟨rfl, ?_⟩
        have : ¬ ValidT t := fun hv => by
          have := ((validT_iff.1 hv).2 _ hmem).1
          rw [hrow0] at this
          exact hb2 this
        simp [this]
      · have hb : row.length = row0.length ∧ 1 ≤ row.length ∧ row.length ≤ 8 := by
          simp at hb; omega
        simp
        refine LoopZt.mk (by kernel_rfl) (fun m F3 G3 H3 => ∃ k : Nat, m = row.length - k ∧ k ≤ row.length ∧ F3 4 = .int .i64 (k : Int) ∧ H3 = H2 ∧ ∀ x ∈ row.take k, 0 ≤ x ∧ x ≤ 1000) row.length ⟨0, by omega, by omega, by simp, rfl, by simp⟩ ?_
        rintro m F3 G3 H3 ⟨k, rfl, hk, h4, rfl, hall2⟩ K3 hK3
        simp at h4
        simp [h3, h4]
        refine tx_elem (R := IRow) (xs := t) (n := i) (a := row) (e := 34) (sz := 1) (ag := false) (by simpa using hI) (by simp [h3]) hrow (by simp) (by simp) (by simp) (by decide) ?_
        rintro p8 u8 hu8
        try simp
        refine tx_lnR (R := IR) (xs := row) (by simpa using hu8) (by simp) ?_
        try simp [h3, h4]
        refine Brt.mkD (fun hkl => ?_) (fun hkl => ?_)
        · refine Exists.elim (⟨_, gtE (show k < row.length by omega)⟩ : ∃ p, row[k]? = some p) fun x hx => ?_
          simp [h3, h4]
          refine tx_elem (R := IRow) (xs := t) (n := i) (a := row) (e := 34) (sz := 1) (ag := false) (by simpa using hI) (by simp [h3]) hrow (by simp) (by simp) (by simp) (by decide) ?_
          rintro p9 u9 hu9
          simp [h4]
          refine tx_elem (R := IR) (xs := row) (n := k) (a := x) (e := 3) (sz := 1) (ag := false) (by simpa using hu9) (by simp [h4]) hx (by simp) (by simp) (by simp) (by decide) ?_
          rintro p10 u10 rfl
          simp
          refine SWt.mk in_spec ?_
          rintro _ _ ⟨rfl, rfl⟩
          try simp
          have hwk := wok (show k < 4611686018427387904 by omega)
          refine Brt.mk (fun hin => ?_) (fun hin => ?_)
          rotate_left
          · simp at hin
            simp [h4, hwk]
            refine hK3 (row.length - (k + 1)) _ _ _ (by omega) ⟨k + 1, rfl, by omega, by simp, rfl, fun y hy => ?_⟩
            rw [List.take_add_one, hx] at hy
            rcases List.mem_append.1 hy with hy | hy
            · exact hall2 y hy
            · simp at hy; subst hy; exact hin
          · simp at hin
            simp [retOf]
            exact no hmem (List.mem_of_getElem? hx) (by omega)
        · have hkl' : k = row.length := by omega
          simp [h3, hw]
          refine hK (t.length - (i + 1)) _ _ _ (by omega) ⟨i + 1, rfl, by omega, by simp, rfl, fun r hr => ?_⟩
          rw [List.take_add_one, hrow] at hr
          rcases List.mem_append.1 hr with hr | hr
          · exact hall r hr
          · simp at hr
            subst hr
            rw [hkl', List.take_length] at hall2
            rw [hrow0]
            exact ⟨hb, hall2⟩
  · simp
    refine tx_lnR (R := IRow) (xs := t) (by simpa using hI) (by simp) ?_
    simp
    refine SWt.mk in_spec ?_
    rintro _ _ ⟨rfl, rfl⟩
    simp [retOf]
    refine hQ _ _ ⟨rfl, ?_⟩
    rw [List.take_of_length_le (by omega)] at hall
    have : ValidT t ↔ 1 ≤ t.length ∧ t.length ≤ 8 := by
      rw [validT_iff]
      exact ⟨fun h => h.1, fun h => ⟨h, hall⟩⟩
    simp only [this]
    simp
    rw [Bool.eq_iff_iff]
    simp
    omega
section
variable {P : Program} {r : List XOp} {F : Fr} {H : SHeap} {Q : Fr → SHeap → Prop} {α : Type}
theorem tx_mkB {bb : Bool} {d t e sz by_ n : Nat} {ag : Bool} {x y : Operand} {kl kc : IntKind} {z : Value} {R : SHeap → Value → α → Prop} {a : α} {tk : Tok ((⟨bb, none, some d, .makeSlice t x y⟩ : XOp) :: r) Q} (hu : P.underlying t = some (.slice e)) (hs : sz? P e = some sz) (hb : bytes? P e = some by_) (hz : zero? P e = some z) (hzf : flat z = true)
    (hag : aggB P e = some ag) (hw : Whole P e z) (hx : fev F x = .int kl (n : Int)) (hy : fev F y = .int kc (n : Int)) (hsz : 0 < sz) (hby : 0 < by_) (hfit : by_ * n ≤ 281474976710656) (hR : ∀ H', R H' z a)
    (K : ∀ v H', OwR H.length e sz ag R H' v (List.replicate n a) → Ext H H' → (n = 0 ∧ v = .slice (some ⟨0, 0, none⟩) 0 0 ∧ H' = H ∨ 0 < n ∧ v = .slice (some ⟨H.length, 0, none⟩) n n ∧ H' = H ++ [.own e false (made z (n * sz))]) → XWt P r Q .mk (upd F d v) H') : XWt P ((⟨bb, none, some d, .makeSlice t x y⟩ : XOp) :: r) Q tk F H := by
  have hzs : z.cells.size = sz := by have := hw.1; rw [hs] at this; exact (Option.some.inj this).symm
  by_cases hn : n = 0
  · subst hn
    exact tx_mx (v := .slice (some ⟨0, 0, none⟩) 0 0) rfl rfl rfl (fun o ho => .make0 ho hu hs hb hx hy) (fun o ho => by simp [isF, ho]) (.inr (Ext.refl H)) (K _ H (OwR.void _ _ _ _ _ _ _) (Ext.refl H) (.inl ⟨rfl, rfl, rfl⟩))
  · refine tx_mx (v := .slice (some ⟨H.length, 0, none⟩) n n) rfl rfl rfl (fun o ho => .make ho hu hs hb hz hzf hzs hx hy hsz hby (Nat.le_refl _) (by omega) hfit) (fun o ho => by simp [isF, ho]) (.inr ((Ext.refl H).snoc _ _ _)) (K _ _ ⟨made z (n * sz), ⟨by simp [made_len], .inr ⟨H.length, 0, n, false, made z (n * sz), by simp, by omega, by simp, Nat.le_refl _, by simp, by simp [made_len], ?_⟩⟩, fun i x hi => ?_⟩ ((Ext.refl H).snoc _ _ _) (.inr ⟨by omega, rfl, rfl⟩))
    · rw [List.drop_zero, List.take_of_length_le (by simp [made_len])]
    · rw [List.getElem?_replicate] at hi
      split at hi
      · rename_i hlt
        obtain rfl := Option.some.inj hi
        have hm := made_get z sz n i hzs hlt hsz
        have : elV ag sz (made z (n * sz)) i = z := by
          have w3 := hw.2.2
          unfold elV
          cases ag with
          | true =>
            have ha : isAg z = true := by
              cases hq : isAg z with
              | true => rfl
              | false => rw [hq] at w3; simp at w3; rw [w3.1] at hag; cases hag
            simp only [if_true]
            rw [hm, Array.toArray_toList]
            exact (ag_cells ha).symm
          | false =>
            have ha : isAg z = false := by
              cases hq : isAg z with
              | false => rfl
              | true => rw [hq] at w3; simp at w3; rw [w3] at hag; cases hag
            rw [ha] at w3
            simp at w3
            have h1 : sz = 1 := by rw [← hzs, w3.2]; rfl
            subst h1
            simp only [Bool.false_eq_true, if_false]
            have h2 : (made z (n * 1))[i]? = (((made z (n * 1)).drop (i * 1)).take 1)[0]? := by
              rw [List.getElem?_take_of_lt (by omega), List.getElem?_drop]; simp
            rw [h2, hm, w3.2]
            rfl
        rw [this]
        exact hR _
      · cases hi
theorem tx_mkT {bb : Bool} {d t e sz by_ n : Nat} {ag : Bool} {x y : Operand} {kl kc : IntKind} {z : Value} {R : SHeap → Value → α → Prop} {a : α} {tk : Tok ((⟨bb, none, some d, .makeSlice t x y⟩ : XOp) :: r) Q} (hu : P.underlying t = some (.slice e)) (hs : sz? P e = some sz) (hb : bytes? P e = some by_) (hz : zero? P e = some z) (hzf : flat z = true)
    (hag : aggB P e = some ag) (hw : Whole P e z) (hx : fev F x = .int kl (n : Int)) (hy : fev F y = .int kc (n : Int)) (hsz : 0 < sz) (hby : 0 < by_) (hfit : by_ * n ≤ 281474976710656) (hR : ∀ H', R H' z a)
    (K : ∀ aa cc H', OwR H.length e sz ag R H' (.slice aa n cc) (List.replicate n a) → Ext H H' → XWt P r Q .mk (upd F d (.slice aa n cc)) H') : XWt P ((⟨bb, none, some d, .makeSlice t x y⟩ : XOp) :: r) Q tk F H :=
  tx_mkB hu hs hb hz hzf hag hw hx hy hsz hby hfit hR fun v H' hO hx' hc => by
    have hl := hO.len
    rw [List.length_replicate] at hl
    obtain ⟨aa, cc, rfl⟩ := hl
    exact K aa cc H' hO hx'
end
structure BoundI (js ks : List Int) (M kind : Int) (w : Nat) : Prop where
  jl : ∀ x ∈ js, x ≤ M
  kl : ∀ x ∈ ks, x ≤ M
  at_ : (kind = 0 ∧ js[w]? = some M ∧ ∀ (i : Nat) (x : Int), i < w → js[i]? = some x → x < M) ∨ (kind = 1 ∧ (∀ x ∈ js, x < M) ∧ ks[w]? = some M ∧ ∀ (i : Nat) (x : Int), i < w → ks[i]? = some x → x < M)
theorem BoundI.uniq {js ks : List Int} {M M' kind kind' : Int} {w w' : Nat} (h : BoundI js ks M kind w) (h' : BoundI js ks M' kind' w') : M = M' ∧ kind = kind' ∧ w = w' := by
  have le : ∀ {M M' kind kind' : Int} {w w' : Nat}, BoundI js ks M kind w → BoundI js ks M' kind' w' → M ≤ M' := fun h h' => by
    rcases h.at_ with ⟨-, h1, -⟩ | ⟨-, -, h1, -⟩
    · exact h'.jl _ (List.mem_of_getElem? h1)
    · exact h'.kl _ (List.mem_of_getElem? h1)
  have e : M = M' := Int.le_antisymm (le h h') (le h' h)
  subst e
  refine ⟨rfl, ?_⟩
  rcases h.at_ with ⟨e1, h1, h2⟩ | ⟨e1, h0, h1, h2⟩ <;> rcases h'.at_ with ⟨e2, g1, g2⟩ | ⟨e2, g0, g1, g2⟩
  · refine ⟨by rw [e1, e2], ?_⟩
    rcases Nat.lt_trichotomy w w' with hlt | he | hlt
    · exact absurd (g2 _ _ hlt h1) (Int.lt_irrefl _)
    · exact he
    · exact absurd (h2 _ _ hlt g1) (Int.lt_irrefl _)
  · exact absurd (g0 _ (List.mem_of_getElem? h1)) (Int.lt_irrefl _)
  · exact absurd (h0 _ (List.mem_of_getElem? g1)) (Int.lt_irrefl _)
  · refine ⟨by rw [e1, e2], ?_⟩
    rcases Nat.lt_trichotomy w w' with hlt | he | hlt
    · exact absurd (g2 _ _ hlt h1) (Int.lt_irrefl _)
    · exact he
    · exact absurd (h2 _ _ hlt g1) (Int.lt_irrefl _)
theorem mostI {t : List (List Int)} (ht : 0 < t.length) : ∃ M : Int, (mostTo (rload (qt t)) t.length).1 = (M : Rat) ∧ (t.map List.sum)[(mostTo (rload (qt t)) t.length).2]? = some M ∧ (∀ x ∈ t.map List.sum, x ≤ M) ∧ ∀ (i : Nat) (x : Int), i < (mostTo (rload (qt t)) t.length).2 → (t.map List.sum)[i]? = some x → x < M := by
  have hld : ∀ (i : Nat) (x : Int), (t.map List.sum)[i]? = some x → rload (qt t) i = (x : Rat) := fun i x h => by
    rw [List.getElem?_map] at h
    rw [rload_int]
    cases hi : t[i]? with
    | none => rw [hi] at h; cases h
    | some r => rw [hi] at h; simp at h; simp [h]
  obtain ⟨h1, h2⟩ := mostTo_at (rload (qt t)) t.length
  have hw : (mostTo (rload (qt t)) t.length).2 < t.length := by omega
  have hg : (t.map List.sum)[(mostTo (rload (qt t)) t.length).2]? = some (t[(mostTo (rload (qt t)) t.length).2]'hw).sum := by
    rw [List.getElem?_map, gtE hw]; rfl
  refine ⟨_, by rw [h1, hld _ _ hg], hg, fun x hx => ?_, fun i x hi hx => ?_⟩
  · obtain ⟨i, hi⟩ := List.mem_iff_getElem?.1 hx
    have hil : i < t.length := by have := (gsI.1 hi).1; simpa using this
    have := mostTo_le (rload (qt t)) hil
    rw [h1, hld _ _ hi, hld _ _ hg] at this
    exact_mod_cast this
  · have := mostTo_lt (rload (qt t)) hi
    rw [h1, hld _ _ hx, hld _ _ hg] at this
    exact_mod_cast this
theorem boundI {t : List (List Int)} {m : Nat} (hm : m = (t[0]?.getD []).length) (ht : 0 < t.length) (h0 : 0 < m) : BoundI (t.map List.sum) ((turnI m t).map List.sum) (boundQ t).1 (boundQ t).2.1 (boundQ t).2.2 := by
  obtain ⟨J, hJ, hJa, hJl, hJf⟩ := mostI ht
  have htl : (turnI m t).length = m := by simp [turnI]
  obtain ⟨K, hK, hKa, hKl, hKf⟩ := mostI (t := turnI m t) (by omega)
  rw [htl] at hK hKa hKf
  have hB : boundQ t = if (mostTo (rload (qt t)) t.length).1 < (mostTo (rload (qt (turnI m t))) m).1 then ((mostTo (rload (qt (turnI m t))) m).1.num, 1, (mostTo (rload (qt (turnI m t))) m).2) else ((mostTo (rload (qt t)) t.length).1.num, 0, (mostTo (rload (qt t)) t.length).2) := by
    unfold boundQ
    rw [← hm]
  rw [hB, hJ, hK]
  by_cases hlt : J < K
  · rw [if_pos (by exact_mod_cast hlt)]
    simp only [Rat.num_intCast]
    exact ⟨fun x hx => by have := hJl x hx; omega, hKl, .inr ⟨rfl, fun x hx => by have := hJl x hx; omega, hKa, hKf⟩⟩
  · rw [if_neg (fun h => hlt (by exact_mod_cast h))]
    simp only [Rat.num_intCast]
    exact ⟨hJl, fun x hx => by have := hKl x hx; omega, .inl ⟨rfl, hJa, hJf⟩⟩
def entI (t : List (List Int)) (i k : Nat) : Int := (t[i]?.getD [])[k]?.getD 0
def jobT (t : List (List Int)) (i k a : Nat) : Int := if a < i then (t[a]?.getD []).sum else if a = i then ((t[i]?.getD []).take k).sum else 0
def macT (t : List (List Int)) (i k b : Nat) : Int := ((t.take i).map fun r => r[b]?.getD 0).sum + if b < k then entI t i b else 0
theorem take_sum {row : List Int} {k : Nat} {x : Int} (hx : row[k]? = some x) : (row.take (k + 1)).sum = (row.take k).sum + x := by
  rw [List.take_add_one, hx]; simp
theorem jobT_next {t : List (List Int)} {i k a : Nat} {row : List Int} {x : Int} (hr : t[i]? = some row) (hx : row[k]? = some x) : jobT t i (k + 1) a = if a = i then jobT t i k i + x else jobT t i k a := by
  unfold jobT
  by_cases h : a = i
  · subst h
    simp [hr, take_sum hx]
  · simp [h]
theorem macT_next {t : List (List Int)} {i k b : Nat} {row : List Int} {x : Int} (hr : t[i]? = some row) (hx : row[k]? = some x) : macT t i (k + 1) b = if b = k then macT t i k k + x else macT t i k b := by
  unfold macT entI
  by_cases h : b = k
  · subst h
    simp [hr, hx]
  · rw [if_neg h]
    by_cases h2 : b < k
    · rw [if_pos (by omega), if_pos h2]
    · rw [if_neg (by omega), if_neg h2]
theorem jobT_row {t : List (List Int)} {i a : Nat} {row : List Int} (hr : t[i]? = some row) : jobT t i row.length a = jobT t (i + 1) 0 a := by
  unfold jobT
  by_cases h : a < i
  · rw [if_pos h, if_pos (by omega)]
  · by_cases h2 : a = i
    · subst h2
      simp [hr]
    · rw [if_neg h, if_neg h2, if_neg (by omega)]
      split <;> simp
theorem macT_row {t : List (List Int)} {i b : Nat} {row : List Int} (hr : t[i]? = some row) (hb : b < row.length) : macT t i row.length b = macT t (i + 1) 0 b := by
  unfold macT entI
  rw [if_pos hb, List.take_add_one, hr]
  simp
theorem jobT_small {t : List (List Int)} (hs : SmallI t) (i k a : Nat) : 0 ≤ jobT t i k a ∧ jobT t i k a ≤ 1000000000 := by
  have g : ∀ i k : Nat, 0 ≤ ((t[i]?.getD []).take k).sum ∧ ((t[i]?.getD []).take k).sum ≤ 1000000000 := fun i k => by
    cases hr : t[i]? with
    | none => simp
    | some r =>
      have := hs r (List.mem_of_getElem? hr)
      exact SmallI.sum (by simp; omega) fun x hx => this.2 x (List.mem_of_mem_take hx)
  unfold jobT
  split
  · have := g a (t[a]?.getD []).length
    rwa [List.take_length] at this
  · split
    · exact g i k
    · omega
theorem macT_small {t : List (List Int)} (hs : SmallI t) (hl : t.length < 1000) (i k b : Nat) : 0 ≤ macT t i k b ∧ macT t i k b ≤ 2000000000 := by
  have g : ∀ r ∈ t, 0 ≤ r[b]?.getD 0 ∧ r[b]?.getD 0 ≤ 1000000 := fun r hr => by
    cases hx : r[b]? with
    | none => simp
    | some x => exact (hs r hr).2 x (List.mem_of_getElem? hx)
  have h1 : 0 ≤ ((t.take i).map fun r => r[b]?.getD 0).sum ∧ ((t.take i).map fun r => r[b]?.getD 0).sum ≤ 1000000000 := SmallI.sum (by simp; omega) fun x hx => by
    rw [List.mem_map] at hx
    obtain ⟨r, hr, rfl⟩ := hx
    exact g r (List.mem_of_mem_take hr)
  have h2 : 0 ≤ entI t i b ∧ entI t i b ≤ 1000000 := by
    unfold entI
    cases hr : t[i]? with
    | none => simp
    | some r => exact g r (List.mem_of_getElem? hr)
  unfold macT
  split <;> omega
theorem IsAt {js : List Int} {n : Nat} {f g : Nat → Int} {x : Int} {i : Nat} (hi : i < n) (h : js.length = n ∧ ∀ a, a < n → js[a]? = some (f a)) (hg : ∀ a, g a = if a = i then x else f a) : (js.set i x).length = n ∧ ∀ a, a < n → (js.set i x)[a]? = some (g a) := by
  refine ⟨by simp [h.1], fun a ha => ?_⟩
  rw [hg, List.getElem?_set]
  by_cases hai : i = a
  · subst hai
    simp [h.1, hi]
  · rw [if_neg hai, if_neg (Ne.symm hai), h.2 a ha]
theorem loads_spec {v : Value} {t : List (List Int)} {m : Nat} {H : SHeap} (hm : m = (t[0]?.getD []).length) (hI : ITab H v t) (hv : ValidT t) :
    SW prog 40 [v] H (fun u H1 => Ext H H1 ∧ ∃ a b, u = .tuple #[a, b] ∧ IRow H1 a (t.map List.sum) ∧ IRow H1 b ((turnI m t).map List.sum)) := by
  refine SW.cps fun Q hQ => ?_
  have hs := hv.small
  have hml := hv.len
  have v1 := hv.1
  have v2 := hv.2.1
  have v3 := hv.2.2.1
  have v4 := hv.2.2.2.1
  rw [← hm] at hml v3 v4
  obtain ⟨row0, hrow0⟩ : ∃ p, t[0]? = some p := ⟨_, gtE (show 0 < t.length by omega)⟩
  have hr0 : row0.length = m := hml _ (List.mem_of_getElem? hrow0)
  have hpos : 0 < H.length := by
    obtain ⟨b, i, cap, X, all, -, hX, -⟩ := (Row.iss hI).at (by omega)
    have := (gsI.1 hX).1
    omega
  obtain ⟨n, hn⟩ : ∃ n, n = t.length := ⟨_, rfl⟩
  apply into_ref_Loads (by simp)
  simp [Z_ref_Loads]
  refine tx_lnR (R := IRow) (xs := t) (by simpa using hI) (by simp) ?_
  simp only [← hn]
  try simp
  refine tx_mkT (e := 3) (sz := 1) (by_ := 8) (ag := false) (n := n) (kl := .i64) (kc := .i64) (z := .int .i64 0) (R := IR) (a := 0) (by simp) (by simp) (by simp) (by rfl) (by rfl) (by simp) (wh_int 0) (by simp) (by simp) (by decide) (by decide) (by omega) (fun H' => rfl) ?_
  intro ja jc H1 hJ1 hx1
  simp
  have hI1 := Mono.ext (R := ITab) hI hx1
  refine tx_elem (R := IRow) (xs := t) (n := 0) (a := row0) (e := 34) (sz := 1) (ag := false) (by simpa using hI1) (by simp) hrow0 (by simp) (by simp) (by simp) (by decide) ?_
  rintro p6 u6 hu6
  try simp
  refine tx_lnR (R := IR) (xs := row0) (by simpa using hu6) (by simp) ?_
  simp only [hr0]
  try simp
  refine tx_mkT (e := 3) (sz := 1) (by_ := 8) (ag := false) (n := m) (kl := .i64) (kc := .i64) (z := .int .i64 0) (R := IR) (a := 0) (by simp) (by simp) (by simp) (by rfl) (by rfl) (by simp) (wh_int 0) (by simp) (by simp) (by decide) (by decide) (by omega) (fun H' => rfl) ?_
  intro ka kc H2 hK2 hx2
  have hl1 := Ext.len hx1
  have hne : ∀ b, 0 < b → inBlock (.slice ja n jc) b → ¬ inBlock (.slice ka m kc) b := fun b h0 h1 h2 => by
    have := hJ1.ge h1 h0
    have := hK2.ge h2 h0
    omega
  have hJ2 := Mono.ext (R := OwR _ _ _ _ IR) hJ1 hx2
  have hKK := hK2.le hl1
  have hI2 := Mono.ext (R := ITab) hI1 hx2
  have hx02 := hx1.tr hx2
  try simp
  refine LoopZt.mk (by kernel_rfl) (fun w F3 G3 H3 => ∃ (i : Nat) (js ks : List Int), w = n - i ∧ i ≤ n ∧ F3 6 = .int .i64 (i : Int) ∧ Ext H H3 ∧ OwR H.length 3 1 false IR H3 (.slice ja n jc) js ∧ OwR H.length 3 1 false IR H3 (.slice ka m kc) ks ∧ (js.length = n ∧ ∀ a, a < n → js[a]? = some (jobT t i 0 a)) ∧ (ks.length = m ∧ ∀ a, a < m → ks[a]? = some (macT t i 0 a))) n ⟨0, List.replicate n 0, List.replicate m 0, by omega, by omega, by simp, hx02, hJ2, hKK, ⟨by simp, fun a ha => by simp [jobT, ha]⟩, ⟨by simp, fun a ha => by simp [macT, ha]⟩⟩ ?_
  rintro w F3 G3 H3 ⟨i, js, ks, rfl, hi, h6, hx3, hJ3, hK3, hjs, hks⟩ K hK
  simp at h6
  have hI3 := Mono.ext (R := ITab) hI hx3
  simp [h6]
  refine tx_lnR (R := IRow) (xs := t) (by simpa using hI3) (by simp) ?_
  simp only [← hn]
  simp
  refine Brt.mkD (fun hlt => ?_) (fun hlt => ?_)
  · refine Exists.elim (⟨_, gtE (show i < t.length by omega)⟩ : ∃ p, t[i]? = some p) fun row hrow => ?_
    have hmem := List.mem_of_getElem? hrow
    have hrl := hml _ hmem
    have hwi := wok (show i < 4611686018427387904 by omega)
    simp
    refine LoopZt.mk (by kernel_rfl) (fun w F4 G4 H4 => ∃ (k : Nat) (js ks : List Int), w = m - k ∧ k ≤ m ∧ F4 7 = .int .i64 (k : Int) ∧ Ext H H4 ∧ OwR H.length 3 1 false IR H4 (.slice ja n jc) js ∧ OwR H.length 3 1 false IR H4 (.slice ka m kc) ks ∧ (js.length = n ∧ ∀ a, a < n → js[a]? = some (jobT t i k a)) ∧ (ks.length = m ∧ ∀ a, a < m → ks[a]? = some (macT t i k a))) m ⟨0, js, ks, by omega, by omega, by simp, hx3, hJ3, hK3, hjs, hks⟩ ?_
    rintro w F4 G4 H4 ⟨k, js, ks, rfl, hk, h7, hx4, hJ4, hK4, hjs, hks⟩ K4 hKK4
    simp at h7
    have hI4 := Mono.ext (R := ITab) hI hx4
    simp [h6, h7]
    refine tx_elem (R := IRow) (xs := t) (n := i) (a := row) (e := 34) (sz := 1) (ag := false) (by simpa using hI4) (by simp [h6]) hrow (by simp) (by simp) (by simp) (by decide) ?_
    rintro p8 u8 hu8
    try simp
    refine tx_lnR (R := IR) (xs := row) (by simpa using hu8) (by simp) ?_
    simp only [hrl]
    simp [h7]
    refine Brt.mkD (fun hkl => ?_) (fun hkl => ?_)
    · refine Exists.elim (⟨_, gtE (show k < row.length by omega)⟩ : ∃ p, row[k]? = some p) fun x hx => ?_
      have hwk := wok (show k < 4611686018427387904 by omega)
      have hxb := (hs _ hmem).2 x (List.mem_of_getElem? hx)
      have hj1 := jobT_small hs i k i
      have hm1 := macT_small hs (by omega) i k k
      have hwj : IntKind.i64.wrap (jobT t i k i + x) = jobT t i k i + x := w64 (by omega) (by omega)
      have hwm : IntKind.i64.wrap (macT t i k k + x) = macT t i k k + x := w64 (by omega) (by omega)
      simp [h6, h7]
      refine tx_elem (R := IR) (xs := js) (n := i) (a := jobT t i k i) (e := 3) (sz := 1) (ag := false) (by simpa using hJ4.row) (by simp [h6]) (hjs.2 i (by omega)) (by simp) (by simp) (by simp) (by decide) ?_
      rintro p9 u9 rfl
      simp [h6, h7]
      refine tx_elem (R := IRow) (xs := t) (n := i) (a := row) (e := 34) (sz := 1) (ag := false) (by simpa using hI4) (by simp [h6]) hrow (by simp) (by simp) (by simp) (by decide) ?_
      rintro p10 u10 hu10
      simp [h7]
      refine tx_elem (R := IR) (xs := row) (n := k) (a := x) (e := 3) (sz := 1) (ag := false) (by simpa using hu10) (by simp [h7]) hx (by simp) (by simp) (by simp) (by decide) ?_
      rintro p11 u11 rfl
      simp [hwj]
      refine tx_put (k := H.length) (e := 3) (sz := 1) (ag := false) (n := i) (R := IR) (xs := js) (a := jobT t i k i + x) (by simpa using hJ4) (by simp [h6]) (by omega) (by simp [IR]) (by simpa using wh_int _) (by simp) (fun H' s' u y hk h => h) (by simp) (by simp) (by simp) (by decide) ?_
      intro p12 H5 hJ5 hx5 hk5 hl5 hc5
      have hx05 := hx5 _ (Nat.le_refl _) hx4
      have hI5 := Mono.ext (R := ITab) hI hx05
      simp at hJ5 hk5
      have hK5 := hK4.beside hpos hk5 (fun b h0 h1 h2 => hne b h0 h2 h1) fun _ _ h => h
      have hjs5 := IsAt (i := i) (by omega) hjs (fun a => jobT_next hrow hx)
      simp [h6, h7]
      refine tx_elem (R := IR) (xs := ks) (n := k) (a := macT t i k k) (e := 3) (sz := 1) (ag := false) (by simpa using hK5.row) (by simp [h7]) (hks.2 k (by omega)) (by simp) (by simp) (by simp) (by decide) ?_
      rintro p13 u13 rfl
      simp [h6, h7]
      refine tx_elem (R := IRow) (xs := t) (n := i) (a := row) (e := 34) (sz := 1) (ag := false) (by simpa using hI5) (by simp [h6]) hrow (by simp) (by simp) (by simp) (by decide) ?_
      rintro p14 u14 hu14
      simp [h7]
      refine tx_elem (R := IR) (xs := row) (n := k) (a := x) (e := 3) (sz := 1) (ag := false) (by simpa using hu14) (by simp [h7]) hx (by simp) (by simp) (by simp) (by decide) ?_
      rintro p15 u15 rfl
      simp [hwm]
      refine tx_put (k := H.length) (e := 3) (sz := 1) (ag := false) (n := k) (R := IR) (xs := ks) (a := macT t i k k + x) (by simpa using hK5) (by simp [h7]) (by omega) (by simp [IR]) (by simpa using wh_int _) (by simp) (fun H' s' u y hk h => h) (by simp) (by simp) (by simp) (by decide) ?_
      intro p16 H6 hK6 hx6 hk6 hl6 hc6
      have hx06 := hx6 _ (Nat.le_refl _) hx05
      simp at hK6 hk6
      have hJ6 := hJ5.beside hpos hk6 (fun b h0 h1 h2 => hne b h0 h1 h2) fun _ _ h => h
      have hks6 := IsAt (i := k) (by omega) hks (fun a => macT_next hrow hx)
      simp [h7, hwk]
      exact hKK4 (m - (k + 1)) _ _ _ (by omega) ⟨k + 1, _, _, rfl, by omega, by simp, hx06, hJ6, hK6, hjs5, hks6⟩
    · have hkm : k = m := by omega
      simp [h6, hwi]
      refine hK (n - (i + 1)) _ _ _ (by omega) ⟨i + 1, js, ks, rfl, by omega, by simp, hx4, hJ4, hK4, ⟨hjs.1, fun a ha => ?_⟩, ⟨hks.1, fun a ha => ?_⟩⟩
      · rw [hjs.2 a ha, ← jobT_row hrow, hrl, hkm]
      · rw [hks.2 a ha, ← macT_row hrow (by omega), hrl, hkm]
  · have hin : i = n := by omega
    simp [retOf]
    have ej : js = t.map List.sum := by
      apply List.ext_getElem?
      intro a
      by_cases ha : a < n
      · rw [hjs.2 a ha, List.getElem?_map, gtE (by omega)]
        simp [jobT, show a < i by omega, gtE (show a < t.length by omega)]
      · rw [List.getElem?_eq_none (by omega), List.getElem?_eq_none (by simp; omega)]
    have ek : ks = (turnI m t).map List.sum := by
      apply List.ext_getElem?
      intro a
      by_cases ha : a < m
      · rw [hks.2 a ha]
        unfold turnI macT
        rw [List.take_of_length_le (by omega)]
        simp [ha]
      · rw [List.getElem?_eq_none (by omega), List.getElem?_eq_none (by simp [turnI]; omega)]
    refine hQ _ _ ⟨hx3, _, _, rfl, ?_, ?_⟩
    · rw [← ej]; exact hJ3.row
    · rw [← ek]; exact hK3.row
structure MaxI (l : List Int) (z : Int) : Prop where
  le : ∀ x ∈ l, x ≤ z
  at_ : z = 0 ∨ z ∈ l
  nn : 0 ≤ z
theorem MaxI.nil : MaxI [] 0 := ⟨by simp, .inl rfl, Int.le_refl _⟩
theorem MaxI.snoc {l : List Int} {z x : Int} (h : MaxI l z) : MaxI (l ++ [x]) (if z < x then x else z) := by
  split
  · have := h.nn
    refine ⟨fun y hy => ?_, .inr (by simp), by omega⟩
    rcases List.mem_append.1 hy with hy | hy
    · have := h.le y hy; omega
    · simp at hy; omega
  · refine ⟨fun y hy => ?_, ?_, h.nn⟩
    · rcases List.mem_append.1 hy with hy | hy
      · exact h.le y hy
      · simp at hy; omega
    · rcases h.at_ with h | h
      · exact .inl h
      · exact .inr (by simp [h])
theorem BoundI.jobs {js ks : List Int} {z : Int} {i : Nat} (h : MaxI (js ++ ks) z) (hi : js[i]? = some z) (hf : ∀ x ∈ js.take i, x ≠ z) : BoundI js ks z 0 i :=
  ⟨fun x hx => h.le x (by simp [hx]), fun x hx => h.le x (by simp [hx]), .inl ⟨rfl, hi, fun a x ha hx => by
    have h1 := h.le x (by simp [List.mem_of_getElem? hx])
    have h2 := hf x (List.mem_of_getElem? (by rw [List.getElem?_take_of_lt ha]; exact hx))
    omega⟩⟩
theorem BoundI.machines {js ks : List Int} {z : Int} {i : Nat} (h : MaxI (js ++ ks) z) (hj : ∀ x ∈ js, x ≠ z) (hi : ks[i]? = some z) (hf : ∀ x ∈ ks.take i, x ≠ z) : BoundI js ks z 1 i :=
  ⟨fun x hx => h.le x (by simp [hx]), fun x hx => h.le x (by simp [hx]), .inr ⟨rfl, fun x hx => by
    have h1 := h.le x (by simp [hx])
    have h2 := hj x hx
    omega, hi, fun a x ha hx => by
    have h1 := h.le x (by simp [List.mem_of_getElem? hx])
    have h2 := hf x (List.mem_of_getElem? (by rw [List.getElem?_take_of_lt ha]; exact hx))
    omega⟩⟩
theorem boundR_spec {v : Value} {t : List (List Int)} {H : SHeap} (hI : ITab H v t) (hv : ValidT t) :
    SW prog 13 [v] H (fun u H1 => Ext H H1 ∧ u = .tuple #[.int .i64 (boundQ t).1, .int .i64 (boundQ t).2.1, .int .i64 (boundQ t).2.2]) := by
  refine SW.cps fun Q hQ => ?_
  obtain ⟨m, hm⟩ : ∃ m, m = (t[0]?.getD []).length := ⟨_, rfl⟩
  have hs := hv.small
  have v1 := hv.1
  have v2 := hv.2.1
  have v3 := hv.2.2.1
  have v4 := hv.2.2.2.1
  rw [← hm] at v3 v4
  have hB := boundI hm (by omega) (by omega)
  obtain ⟨js, hjs⟩ : ∃ js, js = t.map List.sum := ⟨_, rfl⟩
  obtain ⟨ks, hks⟩ : ∃ ks, ks = (turnI m t).map List.sum := ⟨_, rfl⟩
  rw [← hjs, ← hks] at hB
  have hjl : js.length = t.length := by rw [hjs]; simp
  have hkl : ks.length = m := by rw [hks]; simp [turnI]
  have hjn : ∀ x ∈ js, 0 ≤ x := fun x hx => by
    rw [hjs, List.mem_map] at hx
    obtain ⟨r, hr, rfl⟩ := hx
    exact (SmallI.sum (hs r hr).1 (hs r hr).2).1
  have done : ∀ {z kind : Int} {w : Nat} {H1 : SHeap}, Ext H H1 → BoundI js ks z kind w → Q (.tuple #[.int .i64 z, .int .i64 kind, .int .i64 (w : Int)]) H1 := fun hx hb => by
    obtain ⟨e1, e2, e3⟩ := hb.uniq hB
    exact hQ _ _ ⟨hx, by rw [e1, e2, e3]⟩
  apply into_ref_Bound (by simp)
  simp [Z_ref_Bound]
  refine SWt.mk (loads_spec hm hI hv) ?_
  simp only [← hjs, ← hks]
  rintro _ H1 ⟨hx1, jv, kv, rfl, hJ, hK⟩
  simp
  refine LoopZt.mk (by kernel_rfl) (fun w F3 G3 H3 => ∃ (i : Nat) (z : Int), w = js.length - i ∧ i ≤ js.length ∧ F3 8 = .int .i64 (i : Int) ∧ F3 7 = .int .i64 z ∧ H3 = H1 ∧ MaxI (js.take i) z) js.length ⟨0, 0, by omega, by omega, by simp, by simp, rfl, by simpa using MaxI.nil⟩ ?_
  rintro w F3 G3 H3 ⟨i, z, rfl, hi, h8, h7, rfl, hz⟩ K hK1
  simp at h8 h7
  simp [h8]
  refine tx_lnR (R := IR) (xs := js) (by simpa using hJ) (by simp) ?_
  simp
  refine Brt.mkD (fun hlt => ?_) (fun hlt => ?_)
  · refine Exists.elim (⟨_, gtE hlt⟩ : ∃ p, js[i]? = some p) fun x hx => ?_
    have hwi := wok (show i < 4611686018427387904 by omega)
    simp [h8, h7]
    refine tx_elem (R := IR) (xs := js) (n := i) (a := x) (e := 3) (sz := 1) (ag := false) (by simpa using hJ) (by simp [h8]) hx (by simp) (by simp) (by simp) (by decide) ?_
    rintro p4 u4 rfl
    simp [h7, h8, hwi]
    refine hK1 (js.length - (i + 1)) _ _ _ (by omega) ⟨i + 1, _, rfl, by omega, by simp, by simp; rfl, rfl, ?_⟩
    rw [List.take_add_one, hx]
    exact hz.snoc
  · rw [show i = js.length by omega, List.take_length] at hz
    simp
    refine LoopZt.mk (by kernel_rfl) (fun w F4 G4 H4 => ∃ (k : Nat) (z : Int), w = ks.length - k ∧ k ≤ ks.length ∧ F4 9 = .int .i64 (k : Int) ∧ F4 7 = .int .i64 z ∧ H4 = H3 ∧ MaxI (js ++ ks.take k) z) ks.length ⟨0, z, by omega, by omega, by simp, by simp [h7], rfl, by simpa using hz⟩ ?_
    rintro w F4 G4 H4 ⟨k, z, rfl, hk, h9, h7, rfl, hz⟩ K4 hK4
    simp at h9 h7
    simp [h9]
    refine tx_lnR (R := IR) (xs := ks) (by simpa using hK) (by simp) ?_
    simp
    refine Brt.mkD (fun hlt => ?_) (fun hlt => ?_)
    · refine Exists.elim (⟨_, gtE hlt⟩ : ∃ p, ks[k]? = some p) fun x hx => ?_
      have hwi := wok (show k < 4611686018427387904 by omega)
      simp [h9, h7]
      refine tx_elem (R := IR) (xs := ks) (n := k) (a := x) (e := 3) (sz := 1) (ag := false) (by simpa using hK) (by simp [h9]) hx (by simp) (by simp) (by simp) (by decide) ?_
      rintro p4 u4 rfl
      simp [h7, h9, hwi]
      refine hK4 (ks.length - (k + 1)) _ _ _ (by omega) ⟨k + 1, _, rfl, by omega, by simp, by simp; rfl, rfl, ?_⟩
      rw [List.take_add_one, hx, ← List.append_assoc]
      exact hz.snoc
    · rw [show k = ks.length by omega, List.take_length] at hz
      simp
      refine LoopZt.mk (by kernel_rfl) (fun w F5 G5 H5 => ∃ (i : Nat), w = js.length - i ∧ i ≤ js.length ∧ F5 10 = .int .i64 (i : Int) ∧ H5 = H4 ∧ ∀ x ∈ js.take i, x ≠ z) js.length ⟨0, by omega, by omega, by simp, rfl, by simp⟩ ?_
      rintro w F5 G5 H5 ⟨i, rfl, hi, h10, rfl, hf⟩ K5 hK5
      simp at h10
      simp [h10]
      refine tx_lnR (R := IR) (xs := js) (by simpa using hJ) (by simp) ?_
      simp
      refine Brt.mkD (fun hlt => ?_) (fun hlt => ?_)
      · refine Exists.elim (⟨_, gtE hlt⟩ : ∃ p, js[i]? = some p) fun x hx => ?_
        have hwi := wok (show i < 4611686018427387904 by omega)
        simp [h10, h7]
        refine tx_elem (R := IR) (xs := js) (n := i) (a := x) (e := 3) (sz := 1) (ag := false) (by simpa using hJ) (by simp [h10]) hx (by simp) (by simp) (by simp) (by decide) ?_
        rintro p4 u4 rfl
        simp [h7]
        refine Brt.mkD (fun he => ?_) (fun he => ?_)
        · simp [h7, h10, retOf]
          exact done hx1 (BoundI.jobs hz (by rw [hx, he]) hf)
        · simp [h10, hwi]
          refine hK5 (js.length - (i + 1)) _ _ _ (by omega) ⟨i + 1, rfl, by omega, by simp, rfl, fun y hy => ?_⟩
          rw [List.take_add_one, hx] at hy
          rcases List.mem_append.1 hy with hy | hy
          · exact hf y hy
          · simp at hy; subst hy; exact he
      · rw [show i = js.length by omega, List.take_length] at hf
        have hzk : z ∈ ks := by
          have h0 : js[0]? = some (js[0]'(by omega)) := gtE (by omega)
          have hm0 := List.mem_of_getElem? h0
          have a1 := hjn _ hm0
          have a2 := hz.le _ (List.mem_append_left _ hm0)
          have a3 := hf _ hm0
          rcases hz.at_ with h | h
          · omega
          · rcases List.mem_append.1 h with h | h
            · exact absurd rfl (hf z h)
            · exact h
        refine Exists.elim (List.mem_iff_getElem?.1 hzk) fun k0 hk0 => ?_
        have hk0l : k0 < ks.length := (gsI.1 hk0).1
        simp
        refine LoopZt.mk (by kernel_rfl) (fun w F6 G6 H6 => ∃ (i : Nat), w = k0 - i ∧ i ≤ k0 ∧ F6 11 = .int .i64 (i : Int) ∧ H6 = H5 ∧ ∀ x ∈ ks.take i, x ≠ z) k0 ⟨0, by omega, by omega, by simp, rfl, by simp⟩ ?_
        rintro w F6 G6 H6 ⟨i, rfl, hi, h11, rfl, hf2⟩ K6 hK6
        simp at h11
        refine Exists.elim (⟨_, gtE (show i < ks.length by omega)⟩ : ∃ p, ks[i]? = some p) fun x hx => ?_
        have hwi := wok (show i < 4611686018427387904 by omega)
        simp [h11, h7]
        refine tx_elem (R := IR) (xs := ks) (n := i) (a := x) (e := 3) (sz := 1) (ag := false) (by simpa using hK) (by simp [h11]) hx (by simp) (by simp) (by simp) (by decide) ?_
        rintro p4 u4 rfl
        simp [h7]
        refine Brt.mkD (fun he => ?_) (fun he => ?_)
        · simp [h7, h11, retOf]
          exact done hx1 (BoundI.machines hz hf (by rw [hx, he]) hf2)
        · simp [h11, hwi]
          have hik : i ≠ k0 := fun h => he (by rw [h, hk0] at hx; exact (Option.some.inj hx).symm)
          refine hK6 (k0 - (i + 1)) _ _ _ (by omega) ⟨i + 1, rfl, by omega, by simp, rfl, fun y hy => ?_⟩
          rw [List.take_add_one, hx] at hy
          rcases List.mem_append.1 hy with hy | hy
          · exact hf2 y hy
          · simp at hy; subst hy; exact he
end Go.Sx
end
