/- Part of the proof of ShopPlans. -/
import Derived.Test.YtoiodfcefbapkaaGreatShopPlansF
set_option linter.unusedVariables false
set_option linter.unusedSimpArgs false
section
set_option maxRecDepth 8000
set_option maxHeartbeats 1000000
namespace Go.Sx
open Go.Proofs
open Go.Proofs.Tryz (prog)
attribute [-simp] tx_ia tx_ln tx_ix
theorem val_cut (l : List Nat) (k : Nat) : val l = val (l.take k) + 4294967296 ^ (min k l.length) * val (l.drop k) := by
  conv => lhs; rw [← List.take_append_drop k l, val_append]
  rw [List.length_take]
theorem U32R.whole {H : SHeap} {u : Value} {y : Nat} (h : U32R H u y) : Whole prog 124 u := h.1 ▸ wh_u32 _
theorem part_spec {v w : Value} {a b : List Nat} {H : SHeap} (hA : Us H 124 v a) (hTa : Trim a) (hB : Us H 124 w b) (hTb : Trim b) (hb0 : 0 < b.length) (hla : a.length < 1048570) (hlb : b.length < 1048570) :
    SW prog 117 [v, w] H (fun u H1 => Ext H H1 ∧ ∃ q r l m, u = .tuple #[q, r] ∧ Us H1 124 q l ∧ Trim l ∧ val l = val a / val b ∧ Us H1 124 r m ∧ Trim m ∧ val m = val a % val b) := by
  refine SW.cps fun Q hQ => ?_
  apply into_num_part (by simp)
  simp [Z_num_part]
  refine SWt.mk (compare_spec hA hB hTa hTb (by omega) (by omega)) ?_
  rintro c H ⟨rfl, rfl⟩
  simp
  refine Brt.mkD (fun hc => ?_) (fun hc => ?_)
  · have hlt : val a < val b := by
      rcases Nat.lt_or_ge (val a) (val b) with h | h
      · exact h
      · rw [if_neg (by omega)] at hc; split at hc <;> omega
    try simp
    refine tx_apR (e := 124) (sz := 1) (by_ := 4) (k := H.length) (z := .int .u32 0) (ag := false) (R := U32R) (xs := []) (ys := a) (by simpa using OwR.nil _ _ _ _ _ _) (by simpa using hA.row) (fun u y h => h.whole) (fun _ _ _ _ _ h => h) (by simp) (by simp) (by simp) (by simp) (.inr rfl) (by simp) (by simp) (by rfl) (by decide) (by simp; omega) (Nat.le_refl _) ?_
    rintro v' H' hO hx -
    simp [retOf]
    refine hQ _ _ ⟨hx H (Nat.le_refl _) (Ext.refl _), _, _, [], a, rfl, ⟨Sl.nil _ _ _, by simp⟩, Trim.nil, ?_, hO.row.us, hTa, ?_⟩
    · rw [Nat.div_eq_of_lt hlt]; rfl
    · rw [Nat.mod_eq_of_lt hlt]
  · have hge : val b ≤ val a := by
      rcases Nat.lt_or_ge (val a) (val b) with h | h
      · rw [if_pos h] at hc; omega
      · exact h
    try simp
    refine tx_lnR (by simpa using hB.row) (by simp) ?_
    simp
    refine Brt.mkD (fun hb1 => ?_) (fun hb1 => ?_)
    · have hbl : b.length = 1 := by omega
      obtain ⟨y, rfl⟩ := List.length_eq_one_iff.1 hbl
      have hy0 : 0 < y := by
        have := hTb
        simp [Trim] at this
        omega
      have hyl : y < 4294967296 := hB.2 y (by simp)
      try simp
      refine tx_elem (R := U32R) (n := 0) (by simpa using hB.row) (by simp) (a := y) (by simp) (by simp) (by simp) (by simp) (.inr rfl) ?_
      rintro p u ⟨rfl, -⟩
      simp
      refine SWt.mk (byWord_spec hA (by omega) hy0 hyl) ?_
      rintro u H2 ⟨hx, q, l, rfl, hq, hTl, hvl⟩
      simp
      have hrl : val a % y < 4294967296 := Nat.lt_trans (Nat.mod_lt _ hy0) hyl
      obtain ⟨r, hr⟩ : ∃ r, val a % y = r := ⟨_, rfl⟩
      rw [hr] at hrl
      refine tx_bs (e := 124) (sz := 1) (z := .int .u32 0) (out := [.int .u32 (r : Int)]) (by simp) (by simp) (by simp) (by rfl) (by rfl) (by omega) (by omega) (by omega) ?_ (by simp) ?_
      · simp [fillP, made, setAll]
        rw [← hr]
        simp
      simp
      have hU := Us.fresh H2 124 [r] 1 1 (Nat.le_refl _) rfl (by simpa using hrl) false
      refine SWt.mk (trim_spec (l := [r]) (by simpa using hU) (by simp)) ?_
      rintro u H3 ⟨rfl, m, hm, hTm, hvm, -⟩
      simp [retOf]
      refine hQ _ _ ⟨hx.snoc _ _ _, _, _, l, m, rfl, hq.ext ((Ext.refl _).snoc _ _ _), hTl, by rw [hvl]; simp [val], hm, hTm, ?_⟩
      rw [hvm, ← hr]
      simp [val]
    · try simp
      obtain ⟨m, hbl⟩ : ∃ m, b.length = m + 2 := ⟨b.length - 2, by omega⟩
      refine tx_lnR (by simpa using hB.row) (by simp) ?_
      have hn1 : IntKind.i64.wrap ((m : Int) + 2 - 1) = (m : Int) + 1 := by rw [w64 (by omega) (by omega)]; omega
      rw [hbl]
      simp [hn1]
      obtain ⟨bt, hbt⟩ : ∃ x, b[m + 1]?.getD 0 = x := ⟨_, rfl⟩
      have hbte : b[m + 1]? = some bt := by rw [← hbt, gtE (by omega)]; rfl
      have hbtl : bt < 4294967296 := hB.2 bt (List.mem_of_getElem? hbte)
      have hbt0 : 0 < bt := by
        have := hTb
        rw [Trim, List.getLast?_eq_getElem?, hbl, show m + 2 - 1 = m + 1 by omega, hbte] at this
        rcases Nat.eq_zero_or_pos bt with q | q
        · rw [q] at this; exact absurd rfl this
        · exact q
      refine tx_elem (R := U32R) (n := m + 1) (by simpa using hB.row) (by simp) hbte (by simp) (by simp) (by simp) (.inr rfl) ?_
      rintro p u ⟨rfl, -⟩
      simp
      refine SWt.mk (lz32_spec hbtl hbt0) ?_
      rintro u H ⟨rfl, s, rfl, hs32, hbs⟩
      simp
      refine SWt.mk (up_spec hB (by omega) hs32) ?_
      rintro vb0 H2 ⟨hx2, ob, hOb, hobl, hobv⟩
      simp
      refine SWt.mk (trim_spec hOb.row.us (by omega)) ?_
      rintro vb H2 ⟨rfl, vs, hVs, hTv, hvv, -⟩
      simp
      rw [hobv] at hvv
      have hbval : val b < 4294967296 ^ (m + 1) * (bt + 1) ∧ 4294967296 ^ (m + 1) ≤ val b := by
        have h1 := val_take_succ b (m + 1)
        rw [show b.take (m + 1 + 1) = b from by rw [← hbl, List.take_length], hbt] at h1
        have h2 := val_lt (l := b.take (m + 1)) fun x hx => hB.2 x (List.mem_of_mem_take hx)
        rw [List.length_take, Nat.min_eq_left (by omega)] at h2
        have h3 := hTb.le (by intro e; simp [e] at hbl)
        rw [hbl, show m + 2 - 1 = m + 1 by omega] at h3
        refine ⟨?_, h3⟩
        rw [h1, Nat.mul_add]
        omega
      have hvsl : vs.length = m + 2 := by
        have h1 : vs.length ≤ m + 2 := by
          refine hTv.length_le ?_
          rw [hvv]
          have : 4294967296 ^ (m + 1) * (bt + 1) * 2 ^ s ≤ 4294967296 ^ (m + 1) * 4294967296 := by
            rw [Nat.mul_assoc]
            refine Nat.mul_le_mul_left _ ?_
            have e : (4294967296 : Nat) = 2 ^ s * 2 ^ (32 - s) := by rw [← Nat.pow_add]; rw [show s + (32 - s) = 32 by omega]
            rw [Nat.mul_comm, e]
            refine Nat.mul_le_mul_left _ ?_
            refine Nat.lt_of_mul_lt_mul_left (a := 2 ^ s) ?_
            rw [← e, Nat.mul_comm]
            exact hbs
          rw [← Nat.pow_succ] at this
          exact Nat.lt_of_lt_of_le (Nat.mul_lt_mul_of_pos_right hbval.1 (Nat.pow_pos (by decide))) this
        have h2 : m + 2 ≤ vs.length := by
          rcases Nat.lt_or_ge vs.length (m + 2) with h | h
          · exfalso
            have h3 := val_lt hVs.2
            rw [hvv] at h3
            have h4 : 4294967296 ^ vs.length ≤ 4294967296 ^ (m + 1) := Nat.pow_le_pow_right (by decide) (by omega)
            have h5 : val b * 1 ≤ val b * 2 ^ s := Nat.mul_le_mul_left _ (Nat.pow_pos (by decide))
            omega
          · exact h
        omega
      have hvt : vs[m + 1]?.getD 0 ≠ 0 := by
        have := hTv
        rw [Trim, List.getLast?_eq_getElem?, hvsl, show m + 2 - 1 = m + 1 by omega, gtE (by omega)] at this
        rw [gtE (by omega)]
        exact fun h => this (by rw [← h]; rfl)
      refine SWt.mk (up_spec (hA.ext hx2) (by omega) hs32) ?_
      rintro vu H4 ⟨hx4, us, hOu, husl, husv⟩
      simp
      refine tx_lnR (by simpa using (hVs.ext hx4).row) (by simp) ?_
      rw [hvsl]
      simp
      refine tx_lnR (by simpa using (hA.ext (hx2.tr hx4)).row) (by simp) ?_
      have hal : b.length ≤ a.length := by
        rcases Nat.lt_or_ge a.length b.length with h | h
        · have := hTb.lt_of_length hA.2 h; omega
        · exact h
      obtain ⟨d, had⟩ : ∃ d, a.length = d + (m + 2) := ⟨a.length - (m + 2), by omega⟩
      have hw1 : IntKind.i64.wrap ((d : Int) + ((m : Int) + 2) - ((m : Int) + 2)) = (d : Int) := by rw [w64 (by omega) (by omega)]; omega
      have hw2 : IntKind.i64.wrap ((d : Int) + 1) = (d : Int) + 1 := w64 (by omega) (by omega)
      have hw3 : IntKind.i64.wrap (d : Int) = (d : Int) := w64 (by omega) (by omega)
      rw [had]
      simp [hw1, hw2, hw3]
      refine tx_mk (e := 124) (sz := 1) (by_ := 4) (n := d + 1) (ag := false) (z := .int .u32 0) (R := U32R) (a := 0) (kl := .i64) (kc := .i64) (by simp) (by simp) (by simp) (by simp) (by rfl) (by simp) wz_u32 (by simp) (by simp) (by omega) (by omega) (by omega) (fun H' => ⟨rfl, by decide⟩) ?_
      rintro vq H5 hOq hx5 -
      simp
      refine tx_lnR (by simpa using (hA.ext (hx2.tr (hx4.tr hx5))).row) (by simp) ?_
      rw [had]
      simp [hw1, hw3]
      have hUlt := hOu.row.us.2
      obtain ⟨cs, ⟨hcl, hO⟩, hcE⟩ := hOu
      have hcs : cs = u32s us := u32_cells hcl fun _ i x hi => hcE i x hi
      subst hcs
      rcases hO with ⟨h0, -⟩ | ⟨bu, o, cap, l, all, rfl, -, hcap, hbu, hXu, hfit, hall⟩
      · omega
      rw [Nat.mul_one] at hfit hall
      have hal2 : all = all.take o ++ (u32s us ++ all.drop (o + us.length)) := by
        rw [hall, ← List.drop_drop, List.take_append_drop, List.take_append_drop]
      have hprel : (all.take o).length = o := by rw [List.length_take]; omega
      generalize all.take o = pre at hal2 hprel
      generalize all.drop (o + us.length) = post at hal2
      subst hal2
      have hXu5 := hx5.get_some hXu
      have hVpos : 0 < val vs := by
        have := hTv.le (by intro e; simp [e] at hvsl)
        have h2 := Nat.pow_pos (n := vs.length - 1) (show 0 < 4294967296 by decide)
        omega
      have hVB : val vs < 4294967296 ^ (m + 2) := by have := val_lt hVs.2; rwa [hvsl] at this
      have htop : val (us.drop (d + 1)) < val vs := by
        have h1 := val_cut us (d + 1)
        rw [Nat.min_eq_left (by omega)] at h1
        have h2 := val_lt hA.2
        rw [had, show d + (m + 2) = d + 1 + (m + 1) by omega, Nat.pow_add] at h2
        have h3 : 4294967296 ^ (d + 1) * val (us.drop (d + 1)) < 4294967296 ^ (d + 1) * (4294967296 ^ (m + 1) * 2 ^ s) := by
          have : val a * 2 ^ s < 4294967296 ^ (d + 1) * 4294967296 ^ (m + 1) * 2 ^ s := Nat.mul_lt_mul_of_pos_right h2 (Nat.pow_pos (by decide))
          rw [Nat.mul_assoc] at this
          omega
        have h4 := Nat.lt_of_mul_lt_mul_left h3
        have h5 : 4294967296 ^ (m + 1) * 2 ^ s ≤ val b * 2 ^ s := Nat.mul_le_mul_right _ hbval.2
        omega
      refine LoopZt.mk (by kernel_rfl) (fun k F3 G3 H6 => k ≤ d + 1 ∧ F3 13 = .int .i64 ((k : Int) - 1) ∧ Ext H2 H6 ∧ Ext H H6 ∧ ∃ us' qs : List Nat, H6[bu]? = some (.own 124 l (pre ++ (u32s us' ++ post))) ∧ us'.length = us.length ∧ (∀ x ∈ us', x < 4294967296) ∧ OwR H4.length 124 1 false U32R H6 vq qs ∧ qs.length = d + 1 ∧
        val us' + val vs * (4294967296 ^ k * val (qs.drop k)) = val us ∧ val (us'.drop k) < val vs) (d + 1) ?_ ?_
      · refine ⟨Nat.le_refl _, by simp, hx4.tr hx5, hx2.tr (hx4.tr hx5), us, _, hXu5, rfl, hUlt, hOq, by simp, ?_, htop⟩
        rw [List.drop_eq_nil_of_le (by simp), show val [] = 0 from rfl, Nat.mul_zero, Nat.mul_zero, Nat.add_zero]
      · rintro k F3 G3 H6 ⟨hk, h13, hx6, hx6', us', qs, hX6, hul6, hlt6, hO6, hql, hinv, hdr⟩ K hK
        simp at h13
        simp [h13]
        refine Brt.mkD (fun hp => ?_) (fun hp => ?_)
        · obtain ⟨j, rfl⟩ : ∃ j, k = j + 1 := ⟨k - 1, by omega⟩
          have hj : ((j + 1 : Nat) : Int) - 1 = (j : Int) := by omega
          have hj' : (j : Int) + 1 - 1 = (j : Int) := by omega
          have e1 : IntKind.i64.wrap ((j : Int) + ((m : Int) + 2)) = (j : Int) + ((m : Int) + 2) := w64 (by omega) (by omega)
          have e2 : IntKind.i64.wrap ((j : Int) + ((m : Int) + 2) + 1) = ((j + m + 3 : Nat) : Int) := by rw [w64 (by omega) (by omega)]; omega
          have e5 : IntKind.i64.wrap ((j : Int) - 1) = (j : Int) - 1 := w64 (by omega) (by omega)
          have e3 : IntKind.i64.wrap (j : Int) = (j : Int) := w64 (by omega) (by omega)
          try simp
          simp [h13, hj, hj', e1, e2]
          have hcapu : us.length ≤ cap := hcap
          refine tx_slX (b := bu) (i := o) (len := us.length) (cap := cap) (l := j) (h := j + m + 3) (e := 124) (sz := 1) (by simp) hX6 rfl (by simp) (by simp) (by simp [loOf]) (by simp [hiOf]; omega) (by omega) (by omega) (by omega) ?_
          simp
          obtain ⟨T0, hT⟩ : ∃ T0, (us'.drop j).take (m + 3) = T0 := ⟨_, rfl⟩
          obtain ⟨R, hR⟩ : ∃ R, (us'.drop j).drop (m + 3) = R := ⟨_, rfl⟩
          have hTl : T0.length = m + 3 := by rw [← hT]; simp; omega
          have hRl : R.length = us'.length - (j + (m + 3)) := by rw [← hR]; simp [Nat.sub_sub]
          have hsplit : us' = us'.take j ++ (T0 ++ R) := by rw [← hT, ← hR, List.take_append_drop, List.take_append_drop]
          have hTlt : ∀ x ∈ T0, x < 4294967296 := fun x hx => hlt6 x (by rw [hsplit]; simp [hx])
          have hRlt : ∀ x ∈ R, x < 4294967296 := fun x hx => hlt6 x (by rw [hsplit]; simp [hx])
          have htakel : (us'.take j).length = j := by simp; omega
          have hdj : val (us'.drop j) = val T0 + 4294967296 ^ (m + 3) * val R := by
            have : us'.drop j = T0 ++ R := by rw [← hT, ← hR, List.take_append_drop]
            rw [this, val_append, hTl]
          have hdj2 : val (us'.drop j) < 4294967296 * val vs := by
            rw [val_drop _ _ (by omega)]
            have := getD_lt (l := us') (by decide) hlt6 j
            omega
          have hR0 : val R = 0 := by
            rcases Nat.eq_zero_or_pos (val R) with h | h
            · exact h
            · exfalso
              have h1 : 4294967296 ^ (m + 3) * 1 ≤ 4294967296 ^ (m + 3) * val R := Nat.mul_le_mul_left _ h
              have h2 : 4294967296 * val vs ≤ 4294967296 * 4294967296 ^ (m + 2) := Nat.mul_le_mul_left _ (by omega)
              have h3 : (4294967296 : Nat) ^ (m + 3) = 4294967296 * 4294967296 ^ (m + 2) := by rw [Nat.pow_succ, Nat.mul_comm]
              omega
          rw [hR0, Nat.mul_zero, Nat.add_zero] at hdj
          have hX7 : H6[bu]? = some (.own 124 l ((pre ++ u32s (us'.take j)) ++ (u32s T0 ++ (u32s R ++ post)))) := by
            rw [hX6]
            congr 2
            conv => lhs; rw [hsplit]
            simp [u32s]
          have e4 : j + m + 3 - j = m + 3 := by omega
          rw [e4]
          refine SWt.mk (digit_spec (m := m) hX7 (by simp [u32s, hprel]; omega) hTl hTlt (fun X hX => hVs.ext (hx6.set hbu hX)) hvsl (by omega) hvt (by rw [← hdj]; exact hdj2)) ?_
          rintro u H7 ⟨⟨q, rfl, hq⟩, T', rfl, hTl', hTlt', hTv⟩
          have hqB : q < 4294967296 := by rw [hq, Nat.div_lt_iff_lt_mul hVpos, ← hdj]; exact hdj2
          simp
          have hbu6 : bu < H6.length := (gsI.1 hX6).1
          have hbu4 : bu < H4.length := (gsI.1 hXu).1
          refine tx_put (R := U32R) (n := j) (k := H4.length) (xs := qs) (a := q) (by simpa using hO6.set_lt hbu4 (fun u y h => h)) (by simp) (by omega) ⟨by simp, hqB⟩ (by simpa using wh_u32 _) (by simp) (fun _ _ _ _ _ h => h) (by simp) (by simp) (by simp) (by decide) ?_
          rintro p8 H8 hO8 hx8 - hl8 hc8
          simp at hO8 hc8
          have hext8 : ∀ H0 : SHeap, H0.length ≤ bu → Ext H0 H6 → Ext H0 H8 := fun H0 h0 hx => hx8 H0 (by omega) (by simpa using hx.set h0 (X := .own 124 l ((pre ++ u32s (us'.take j)) ++ (u32s T' ++ (u32s R ++ post)))) (by simp))
          have hX8 : H8[bu]? = some (.own 124 l (pre ++ (u32s (us'.take j ++ (T' ++ R)) ++ post))) := by
            rw [hc8 bu hbu4, List.getElem?_set_self hbu6]
            simp [u32s]
          simp [h13, hj]
          refine hK j _ _ _ (by omega) ⟨by omega, by simp [e5], hext8 _ hbu hx6, hext8 _ (Nat.le_trans hx2.len hbu) hx6', _, _, hX8, ?_, ?_, by simpa using hO8, by simp [hql], ?_, ?_⟩
          · rw [List.length_append, List.length_append, htakel, hTl', hRl]; omega
          · intro x hx
            rcases List.mem_append.1 hx with hx | hx
            · exact hlt6 x (List.mem_of_mem_take hx)
            · rcases List.mem_append.1 hx with hx | hx
              · exact hTlt' x hx
              · exact hRlt x hx
          · have h1 : val us' = val (us'.take j) + 4294967296 ^ j * val T0 := by
              have := val_cut us' j
              rw [Nat.min_eq_left (by omega), hdj] at this
              exact this
            have h2 : val (us'.take j ++ (T' ++ R)) = val (us'.take j) + 4294967296 ^ j * val T' := by
              rw [val_append, val_append, htakel, hR0, Nat.mul_zero, Nat.add_zero]
            have h3 : val ((qs.set j q).drop j) = q + 4294967296 * val (qs.drop (j + 1)) := by
              rw [val_drop _ _ (by simp; omega), List.getElem?_set_self (by omega), List.drop_set_of_lt (by omega)]
              rfl
            have h4 := Nat.div_add_mod (val T0) (val vs)
            rw [← hq, ← hTv] at h4
            rw [h2, h3]
            rw [h1, Nat.pow_succ] at hinv
            generalize (4294967296 : Nat) ^ j = E at *
            generalize val (qs.drop (j + 1)) = Z at *
            have e6 : val vs * (E * (q + 4294967296 * Z)) = E * (val vs * q) + val vs * (E * 4294967296 * Z) := by grind
            have e7 : E * val T0 = E * (val vs * q) + E * val T' := by rw [← Nat.mul_add, h4]
            omega
          · have : (us'.take j ++ (T' ++ R)).drop j = T' ++ R := by
              rw [List.drop_append_of_le_length (by omega), List.drop_eq_nil_of_le (by omega), List.nil_append]
            rw [this, val_append, hR0, Nat.mul_zero, Nat.add_zero, hTv]
            exact Nat.mod_lt _ hVpos
        · have hk0 : k = 0 := by omega
          subst hk0
          simp at hinv hdr
          have hUU : Us H6 124 (.slice (some ⟨bu, o, none⟩) us.length cap) us' := by
            refine ⟨⟨_, cap, by rw [hul6], by omega, by simp, fun _ => ⟨bu, o, _, _, rfl, hX6, rfl, rfl, ?_, ?_⟩⟩, hlt6⟩
            · simp [u32s, hprel]
            · rw [← hprel, List.drop_append_of_le_length (Nat.le_refl _), List.drop_length, List.nil_append, Nat.mul_one, List.take_append_of_le_length (by simp [u32s])]
              rw [List.take_of_length_le (by simp [u32s])]
              rfl
          try simp
          refine SWt.mk (trim_spec hO6.row.us (by omega)) ?_
          rintro q H7 ⟨rfl, lq, hlq, hTq, hvq, -⟩
          refine ⟨Ext.refl _, ?_⟩
          simp
          refine tx_slR (e := 124) (sz := 1) (ag := false) (l := 0) (h := m + 2) (R := U32R) (xs := us') (by simpa using hUU.row) (by simp) (by simp) (.inr rfl) (by simp [loOf]) (by simp [hiOf]; omega) (by omega) (by omega) ?_
          intro vr hr
          simp at hr
          simp
          refine SWt.mk (trim_spec hr.us (by simp; omega)) ?_
          rintro t H8 ⟨rfl, lt, hlt, hTt, hvt', -⟩
          simp
          have hltl : lt.length ≤ m + 2 := by
            refine hTt.length_le ?_
            rw [hvt']
            have := val_lt (l := us'.take (m + 2)) fun x hx => hlt6 x (List.mem_of_mem_take hx)
            rw [List.length_take] at this
            exact Nat.lt_of_lt_of_le this (Nat.pow_le_pow_right (by decide) (Nat.min_le_left _ _))
          refine SWt.mk (down_spec hlt (by omega) hs32) ?_
          rintro z H9 ⟨hx9, lr, hlr, hTr, hvr⟩
          simp [retOf]
          have hts : val (us'.take (m + 2)) = val us' := by
            have h1 := val_cut us' (m + 2)
            rw [Nat.min_eq_left (by omega)] at h1
            rcases Nat.eq_zero_or_pos (val (us'.drop (m + 2))) with h | h
            · rw [h, Nat.mul_zero, Nat.add_zero] at h1; exact h1.symm
            · have h2 : 4294967296 ^ (m + 2) * 1 ≤ 4294967296 ^ (m + 2) * val (us'.drop (m + 2)) := Nat.mul_le_mul_left _ h
              omega
          have hps : 0 < 2 ^ s := Nat.pow_pos (by decide)
          have hquo : val qs = val a / val b := by
            have h1 : val us / val vs = val qs := by
              rw [← hinv, Nat.add_mul_div_left _ _ hVpos, Nat.div_eq_of_lt hdr, Nat.zero_add]
            rw [← h1, husv, hvv, Nat.mul_div_mul_right _ _ hps]
          have hrem : val us' = (val a % val b) * 2 ^ s := by
            have h1 : val us % val vs = val us' := by
              rw [← hinv, Nat.add_mul_mod_self_left, Nat.mod_eq_of_lt hdr]
            rw [← h1, husv, hvv, Nat.mul_mod_mul_right]
          exact hQ _ _ ⟨hx6'.tr hx9, _, _, lq, lr, rfl, hlq.ext hx9, hTq, by rw [hvq, hquo], hlr, hTr, by rw [hvr, hvt', hts, hrem, Nat.mul_div_cancel _ hps]⟩
instance : Mono IntV := ⟨fun h hx => h.ext hx⟩
theorem madeZ_spec {neg : Bool} {v : Value} {l : List Nat} {H : SHeap} (hU : Us H 124 v l) (hT : Trim l) : SW prog 92 [.bool neg, v] H (fun w H1 => Ext H H1 ∧ IntV H1 w (if neg = true then -(val l : Int) else val l)) := by
  obtain ⟨a, c, rfl⟩ := hU.len
  exact made_spec.mono fun w H1 ⟨hx, hw⟩ => ⟨hx, IntV.mk' hw (hU.ext hx) hT⟩
theorem IntV.whole {H : SHeap} {v : Value} {z : Int} (h : IntV H v z) : Whole prog 78 v := by
  obtain ⟨a, c, l, rfl, -⟩ := h
  exact ⟨by simp, by simp, by simp [isAg]⟩
theorem IntV.us {H : SHeap} {s : Bool} {v : Value} {z : Int} (h : IntV H (.agg #[.bool s, v]) z) : ∃ l, s = decide (z < 0) ∧ Us H 124 v l ∧ Trim l ∧ val l = z.natAbs := by
  obtain ⟨a, c, l, he, h2, h3, h4⟩ := h
  simp at he
  obtain ⟨rfl, rfl⟩ := he
  exact ⟨l, rfl, h2, h3, h4⟩
theorem quo_num {a b q r : Int} (hb : b ≠ 0) (hq : q = if (!(decide (a < 0) == decide (b < 0))) = true then -((a.natAbs / b.natAbs : Nat) : Int) else ((a.natAbs / b.natAbs : Nat) : Int)) (hr : r = if decide (a < 0) = true then -((a.natAbs % b.natAbs : Nat) : Int) else ((a.natAbs % b.natAbs : Nat) : Int)) :
    (if a.natAbs % b.natAbs = 0 ∨ (!(decide (a < 0) == decide (b < 0))) = false then q else q - 1) = a.fdiv b ∧ (if a.natAbs % b.natAbs = 0 ∨ (!(decide (a < 0) == decide (b < 0))) = false then r else r + b) = a.fmod b := by
  have hm : a.fmod b = a - b * a.fdiv b := Int.fmod_def a b
  have key : ∀ Q : Int, (0 < b → b * Q ≤ a ∧ a < b * Q + b) → (b < 0 → a ≤ b * Q ∧ b * Q + b < a) → Q = a.fdiv b := by
    intro Q h1 h2
    rcases Int.lt_or_lt_of_ne hb with h | h
    · obtain ⟨p1, p2⟩ := h2 h
      have e : a.fdiv b = (-a).fdiv (-b) := by rw [Int.neg_fdiv_neg]
      rw [e, Int.fdiv_eq_ediv_of_nonneg _ (by omega)]
      refine (Int.ediv_eq_iff_of_pos (by omega)).2 ?_ |>.symm
      constructor <;> grind
    · obtain ⟨p1, p2⟩ := h1 h
      rw [Int.fdiv_eq_ediv_of_nonneg _ (by omega)]
      refine (Int.ediv_eq_iff_of_pos (by omega)).2 ?_ |>.symm
      constructor <;> grind
  have hdm := Nat.div_add_mod a.natAbs b.natAbs
  have hml := Nat.mod_lt a.natAbs (show 0 < b.natAbs by omega)
  generalize a.natAbs / b.natAbs = x at *
  generalize a.natAbs % b.natAbs = y at *
  have hp : (b.natAbs : Int) * x + y = a.natAbs := by exact_mod_cast hdm
  have hQ : (if y = 0 ∨ (!(decide (a < 0) == decide (b < 0))) = false then q else q - 1) = a.fdiv b := by
    refine key _ (fun h => ?_) (fun h => ?_)
    · have e2 : decide (b < 0) = false := by simp; omega
      have hB : (b.natAbs : Int) = b := by omega
      rw [hB] at hp
      by_cases ha : a < 0
      · have e1 : decide (a < 0) = true := by simpa using ha
        have hA : (a.natAbs : Int) = -a := by omega
        simp [e1, e2] at hq ⊢
        rw [hA] at hp
        rw [hq]
        split
        · constructor <;> grind
        · constructor <;> grind
      · have e1 : decide (a < 0) = false := by simpa using ha
        have hA : (a.natAbs : Int) = a := by omega
        simp [e1, e2] at hq ⊢
        rw [hA] at hp
        rw [hq]
        constructor <;> grind
    · have e2 : decide (b < 0) = true := by simpa using h
      have hB : (b.natAbs : Int) = -b := by omega
      rw [hB] at hp
      by_cases ha : a < 0
      · have e1 : decide (a < 0) = true := by simpa using ha
        have hA : (a.natAbs : Int) = -a := by omega
        simp [e1, e2] at hq ⊢
        rw [hA] at hp
        rw [hq]
        constructor <;> grind
      · have e1 : decide (a < 0) = false := by simpa using ha
        have hA : (a.natAbs : Int) = a := by omega
        simp [e1, e2] at hq ⊢
        rw [hA] at hp
        rw [hq]
        split
        · constructor <;> grind
        · constructor <;> grind
  refine ⟨hQ, ?_⟩
  rw [hm, ← hQ]
  by_cases ha : a < 0 <;> by_cases hb' : b < 0
  · have hA : (a.natAbs : Int) = -a := by omega
    have hB : (b.natAbs : Int) = -b := by omega
    rw [hA, hB] at hp
    simp [ha, hb'] at hq hr ⊢
    rw [hq, hr]; grind
  · have hA : (a.natAbs : Int) = -a := by omega
    have hB : (b.natAbs : Int) = b := by omega
    rw [hA, hB] at hp
    simp [ha, hb'] at hq hr ⊢
    rw [hq, hr]
    split <;> grind
  · have hA : (a.natAbs : Int) = a := by omega
    have hB : (b.natAbs : Int) = -b := by omega
    rw [hA, hB] at hp
    simp [ha, hb'] at hq hr ⊢
    rw [hq, hr]
    split <;> grind
  · have hA : (a.natAbs : Int) = a := by omega
    have hB : (b.natAbs : Int) = b := by omega
    rw [hA, hB] at hp
    simp [ha, hb'] at hq hr ⊢
    rw [hq, hr]; grind
theorem quo_spec {v w : Value} {a b : Int} {H : SHeap} (hA : IntV H v a) (hB : IntV H w b) (fa : Fits a) (fb : Fits b) (hb : b ≠ 0) : SW prog 119 [v, w] H (fun u H1 => Ext H H1 ∧ ∃ x y, u = .tuple #[x, y] ∧ IntV H1 x (a.fdiv b) ∧ IntV H1 y (a.fmod b)) := by
  refine SW.cps fun Q hQ => ?_
  apply into_num_Int_Quo (by simp)
  have wA := hA.whole
  have wB := hB.whole
  obtain ⟨s1, a1, n1, c1, rfl⟩ := hA.shape
  obtain ⟨s2, a2, n2, c2, rfl⟩ := hB.shape
  obtain ⟨la, rfl, hUa, hTa, hva⟩ := hA.us
  obtain ⟨lb, rfl, hUb, hTb, hvb⟩ := hB.us
  have hla := fa.length hTa hva
  have hlb := fb.length hTb hvb
  have hlb0 : 0 < lb.length := by rw [hTb.pos, hvb]; omega
  simp [Z_num_Int_Quo]
  have hx0 : Ext H (H ++ [.dead, .dead, .dead, .dead]) := Ext.more H (by simp)
  refine SWt.mk (part_spec (hUa.ext hx0) hTa (hUb.ext hx0) hTb hlb0 (by omega) (by omega)) ?_
  rintro u H1 ⟨hx1, q, r, lq, lr, rfl, hq, hTq, hvq, hr, hTr, hvr⟩
  simp
  rw [hva, hvb] at hvq hvr
  refine SWt.mk (madeZ_spec hq hTq) ?_
  rintro x H2 ⟨hx2, hx⟩
  refine ⟨hx2, ?_⟩
  simp
  refine SWt.mk (madeZ_spec (hr.ext hx2) hTr) ?_
  rintro y H3 ⟨hx3, hy⟩
  refine ⟨hx3, ?_⟩
  have hX := hx.ext hx3
  simp
  refine Putt.mk hx.whole ?_
  simp
  refine Putt.mk hy.whole ?_
  have hx5 : Ext H (H3 ++ [.dead, .dead]) := (hx0.tr (hx1.tr (hx2.tr hx3))).tr (Ext.more H3 (by simp))
  have hx6 : Ext H3 (H3 ++ [.dead, .dead]) := Ext.more H3 (by simp)
  have hr5 := (hr.ext hx2).ext (hx3.tr hx6)
  obtain ⟨hqn, hrn⟩ := quo_num (a := a) (b := b) (q := _) (r := _) hb rfl rfl
  rw [hvq] at hX
  rw [hvr] at hy
  have hlr : 0 < lr.length ↔ ¬ (a.natAbs % b.natAbs = 0) := by rw [hTr.pos, hvr]; omega
  refine ZXt.join (by kernel_rfl) (fun F4 G4 H4 => Ext H H4 ∧ IntV H4 (G4 8) (a.fdiv b) ∧ IntV H4 (G4 9) (a.fmod b)) ?_ ?_
  · rintro K hK -
    rw [tzx_seq]
    refine ZXt.join (by kernel_rfl) (fun F4 G4 H4 => H4 = H3 ++ [.dead, .dead] ∧ ∃ c : Bool, F4 38 = .bool c ∧ (c = true ↔ ¬ (a.natAbs % b.natAbs = 0 ∨ (!(decide (a < 0) == decide (b < 0))) = false))) ?_ ?_
    · rintro K2 hK2 -
      simp
      refine tx_lnR (by simpa using hr5.row) (by simp) ?_
      simp
      refine Brt.mkD (fun hp => ?_) (fun hp => ?_)
      · simp [hp]
        refine hK2 _ _ _ ⟨rfl, (!(decide (a < 0) == decide (b < 0))), by simp, ?_⟩
        have := hlr.1 hp
        simp [this]
      · simp [hp]
        refine hK2 _ _ _ ⟨rfl, false, by simp, ?_⟩
        have : a.natAbs % b.natAbs = 0 := by
          rcases Nat.eq_zero_or_pos (a.natAbs % b.natAbs) with h | h
          · exact h
          · exact absurd (hlr.2 (by omega)) hp
        simp [this]
    · rintro F4 G4 H4 ⟨rfl, c, h38, hc⟩
      simp at h38
      simp [h38]
      refine Brt.mk (fun hcc => ?_) (fun hcc => ?_)
      · have hcond := hc.1 hcc
        rw [if_neg hcond] at hqn hrn
        try simp
        refine SWt.mk (of_spec (by omega) (by omega)) ?_
        rintro o H5 ⟨hx7, ho⟩
        refine ⟨hx7, ?_⟩
        simp
        have f1 : Fits 1 := Fits.small (by decide)
        have hqF : Fits (if (!(decide (a < 0) == decide (b < 0))) = true then -((a.natAbs / b.natAbs : Nat) : Int) else ((a.natAbs / b.natAbs : Nat) : Int)) := by
          have : a.natAbs / b.natAbs ≤ a.natAbs := Nat.div_le_self _ _
          unfold Fits at fa ⊢
          split <;> omega
        have hrF : Fits (if decide (a < 0) = true then -((a.natAbs % b.natAbs : Nat) : Int) else ((a.natAbs % b.natAbs : Nat) : Int)) := by
          have : a.natAbs % b.natAbs ≤ a.natAbs := Nat.mod_le _ _
          unfold Fits at fa ⊢
          split <;> omega
        refine SWt.mk (sub_spec (hX.ext (hx6.tr hx7)) ho hqF f1) ?_
        rintro x' H6 ⟨hx8, hx'⟩
        refine ⟨hx8, ?_⟩
        simp
        refine SWt.mk (add_spec ((hy.ext (hx6.tr hx7)).ext hx8) ((hB.ext hx5).ext (hx7.tr hx8)) hrF fb) ?_
        rintro y' H7 ⟨hx9, hy'⟩
        simp
        refine Putt.mk hx'.whole ?_
        simp
        refine Putt.mk hy'.whole ?_
        rw [hqn] at hx'
        rw [hrn] at hy'
        exact hK _ _ _ ⟨hx5.tr (hx7.tr (hx8.tr hx9)), by simpa using hx'.ext hx9, by simpa using hy'⟩
      · have hcond : (a.natAbs % b.natAbs = 0 ∨ (!(decide (a < 0) == decide (b < 0))) = false) := by
          apply Classical.byContradiction
          intro h
          rw [hc.2 h] at hcc
          cases hcc
        rw [if_pos hcond] at hqn hrn
        rw [hqn] at hX
        rw [hrn] at hy
        exact hK _ _ _ ⟨hx5, by simpa using hX.ext hx6, by simpa using hy.ext hx6⟩
  · rintro F4 G4 H4 ⟨hx, h8, h9⟩
    simp at h8 h9
    simp
    refine Putt.mk h8.whole ?_
    simp
    refine Putt.mk h9.whole ?_
    simp [retOf]
    exact hQ _ _ ⟨hx, _, _, rfl, h8, h9⟩
theorem gcd_spec {v w : Value} {a b : Int} {H : SHeap} (hA : IntV H v a) (hB : IntV H w b) (fa : Fits a) (fb : Fits b) : SW prog 102 [v, w] H (fun u H1 => Ext H H1 ∧ IntV H1 u (Int.gcd a b)) := by
  refine SW.cps fun Q hQ => ?_
  apply into_num_Int_Gcd (by simp)
  have wA := hA.whole
  have wB := hB.whole
  obtain ⟨s1, a1, n1, c1, rfl⟩ := hA.shape
  obtain ⟨s2, a2, n2, c2, rfl⟩ := hB.shape
  obtain ⟨la, rfl, hUa, hTa, hva⟩ := hA.us
  obtain ⟨lb, rfl, hUb, hTb, hvb⟩ := hB.us
  have hla := fa.length hTa hva
  have hlb := fb.length hTb hvb
  simp [Z_num_Int_Gcd]
  have hx0 : Ext H (H ++ [.dead, .dead, .dead]) := Ext.more H (by simp)
  refine LoopZt.mk (by kernel_rfl) (fun n F1 G1 H1 => Ext H H1 ∧ ∃ x y : List Nat, n = val y ∧ Us H1 124 (F1 5) x ∧ Trim x ∧ x.length ≤ 1000000 ∧ Us H1 124 (F1 6) y ∧ Trim y ∧ y.length ≤ 1000000 ∧ Nat.gcd (val x) (val y) = Int.gcd a b) (val lb) ?_ ?_
  · exact ⟨hx0, la, lb, rfl, by simpa using hUa.ext hx0, hTa, hla, by simpa using hUb.ext hx0, hTb, hlb, by rw [hva, hvb]; rfl⟩
  · rintro n F1 G1 H1 ⟨hx1, x, y, rfl, hx, hTx, hlx, hy, hTy, hly, hg⟩ K hK
    simp at hx hy
    simp
    refine tx_lnR (by simpa using hy.row) (by simp) ?_
    simp
    refine Brt.mkD (fun hp => ?_) (fun hp => ?_)
    · try simp
      refine SWt.mk (part_spec hx hTx hy hTy hp (by omega) (by omega)) ?_
      rintro u H2 ⟨hx2, q, r, lq, lr, rfl, hq, hTq, hvq, hr, hTr, hvr⟩
      simp
      have hvy : 0 < val y := (hTy.pos).1 hp
      refine hK (val lr) _ _ _ (by rw [hvr]; exact Nat.mod_lt _ hvy) ⟨hx1.tr hx2, y, lr, rfl, by simpa using hy.ext hx2, hTy, hly, by simpa using hr, hTr, ?_, ?_⟩
      · refine Nat.le_trans (hTr.length_le (n := y.length) ?_) hly
        rw [hvr]
        exact Nat.lt_trans (Nat.mod_lt _ hvy) (val_lt hy.2)
      · rw [hvr, ← hg, Nat.gcd_comm (val x) (val y), Nat.gcd_rec (val y) (val x), Nat.gcd_comm]
    · try simp
      have hy0 : y = [] := List.eq_nil_of_length_eq_zero (by omega)
      subst hy0
      refine SWt.mk (madeZ_spec hx hTx) ?_
      rintro u H2 ⟨hx2, hu⟩
      simp
      refine Putt.mk hu.whole ?_
      simp [retOf]
      simp [val] at hg
      rw [hg] at hu
      exact hQ _ _ ⟨hx1.tr hx2, by simpa using hu⟩
def RatQ (H : SHeap) (v : Value) (q : Rat) : Prop := RatV H v q.num q.den
instance : Mono RatQ := ⟨fun h hx => RatV.ext h hx⟩
theorem RatQ.ext {H H1 : SHeap} {v : Value} {q : Rat} (h : RatQ H v q) (hx : Ext H H1) : RatQ H1 v q := RatV.ext h hx
theorem RatV.whole {H : SHeap} {v : Value} {n d : Int} (h : RatV H v n d) : Whole prog 80 v := by
  obtain ⟨s1, a1, n1, c1, s2, a2, n2, c2, rfl, -⟩ := h.shape
  exact ⟨by simp, by simp, by simp [isAg]⟩
theorem RatQ.whole {H : SHeap} {v : Value} {q : Rat} (h : RatQ H v q) : Whole prog 80 v := RatV.whole h
theorem RatQ.kept {H H' : SHeap} {e : Nat} {s v : Value} {q : Rat} (h : RatQ H v q) (hk : Kept H H' s e) (hne : 124 ≠ e) : RatQ H' v q := RatV.kept h hk hne
theorem Fits.le {a b : Int} (fa : Fits a) (h : b.natAbs ≤ a.natAbs) : Fits b := Nat.lt_of_le_of_lt h fa
def SzQ (N : Nat) (q : Rat) : Prop := q.num.natAbs < 2 ^ N ∧ q.den < 2 ^ N
theorem Fits.bits {z : Int} {N : Nat} (h : z.natAbs < 2 ^ N) (hN : N ≤ 32000000) : Fits z := by
  exact pwB 1000000 h (by omega)
theorem SzQ.num {N : Nat} {q : Rat} (h : SzQ N q) (hN : N ≤ 32000000) : Fits q.num := Fits.bits h.1 hN
theorem SzQ.den {N : Nat} {q : Rat} (h : SzQ N q) (hN : N ≤ 32000000) : Fits q.den := Fits.bits (z := q.den) (by simpa using h.2) hN
theorem SzQ.mono {N M : Nat} {q : Rat} (h : SzQ N q) (hNM : N ≤ M) : SzQ M q := ⟨Nat.lt_of_lt_of_le h.1 (Nat.pow_le_pow_right (by decide) hNM), Nat.lt_of_lt_of_le h.2 (Nat.pow_le_pow_right (by decide) hNM)⟩
theorem SzQ.int {N : Nat} {z : Int} (h : z.natAbs < 2 ^ N) (hN : 0 < N) : SzQ N (z : Rat) := ⟨by rw [Rat.num_intCast]; exact h, by rw [Rat.den_intCast]; exact Nat.one_lt_two_pow (by omega)⟩
theorem SzQ.neg {N : Nat} {q : Rat} (h : SzQ N q) : SzQ N (-q) := ⟨by rw [Rat.neg_num, Int.natAbs_neg]; exact h.1, h.2⟩
theorem divInt_nd (n : Int) (d : Nat) (hd : d ≠ 0) : (Rat.divInt n d).num = n / (Nat.gcd n.natAbs d : Nat) ∧ (Rat.divInt n d).den = d / Nat.gcd n.natAbs d := by
  rw [Rat.divInt_ofNat, Rat.mkRat_def, dif_neg hd, Rat.normalize_eq hd]
  exact ⟨rfl, rfl⟩
theorem SzQ.divInt {N : Nat} {n : Int} {d : Nat} (hd : d ≠ 0) (hn : n.natAbs < 2 ^ N) (hd2 : d < 2 ^ N) : SzQ N (Rat.divInt n d) := by
  obtain ⟨h1, h2⟩ := divInt_nd n d hd
  refine ⟨?_, ?_⟩
  · rw [h1, Int.natAbs_ediv_of_dvd (Int.ofNat_dvd_left.2 (Nat.gcd_dvd_left _ _))]
    exact Nat.lt_of_le_of_lt (Nat.div_le_self _ _) hn
  · rw [h2]
    exact Nat.lt_of_le_of_lt (Nat.div_le_self _ _) hd2
theorem SzQ.add {N M : Nat} {a b : Rat} (ha : SzQ N a) (hb : SzQ M b) : SzQ (N + M + 1) (a + b) := by
  rw [Rat.add_def', ← Rat.divInt_ofNat]
  have h1 : (a.num * b.den).natAbs < 2 ^ (N + M) := by
    rw [Int.natAbs_mul, Int.natAbs_natCast, Nat.pow_add]
    exact Nat.mul_lt_mul'' ha.1 hb.2
  have h2 : (b.num * a.den).natAbs < 2 ^ (N + M) := by
    rw [Int.natAbs_mul, Int.natAbs_natCast, Nat.add_comm, Nat.pow_add]
    exact Nat.mul_lt_mul'' hb.1 ha.2
  refine SzQ.divInt (Nat.mul_ne_zero a.den_nz b.den_nz) ?_ ?_
  · rw [Nat.pow_succ]
    have := Int.natAbs_add_le (a.num * b.den) (b.num * a.den)
    omega
  · have : a.den * b.den < 2 ^ (N + M) := by rw [Nat.pow_add]; exact Nat.mul_lt_mul'' ha.2 hb.2
    rw [Nat.pow_succ]
    omega
theorem int_sh {f : FuncId} {args : List Value} {H : SHeap} {z : Int} (h : SW prog f args H (fun u H1 => Ext H H1 ∧ IntV H1 u z)) : SW prog f args H (fun u H1 => Ext H H1 ∧ ∃ s a n c, u = .agg #[.bool s, .slice a n c] ∧ IntV H1 (.agg #[.bool s, .slice a n c]) z) :=
  h.mono fun u H1 ⟨hx, hu⟩ => by
    obtain ⟨s, a, n, c, rfl⟩ := hu.shape
    exact ⟨hx, _, _, _, _, rfl, hu⟩
theorem quo_spec2 {v w : Value} {a b : Int} {H : SHeap} (hA : IntV H v a) (hB : IntV H w b) (fa : Fits a) (fb : Fits b) (hb : b ≠ 0) : SW prog 119 [v, w] H (fun u H1 => Ext H H1 ∧ ∃ s1 a1 n1 c1 s2 a2 n2 c2, u = .tuple #[.agg #[.bool s1, .slice a1 n1 c1], .agg #[.bool s2, .slice a2 n2 c2]] ∧ IntV H1 (.agg #[.bool s1, .slice a1 n1 c1]) (a.fdiv b) ∧ IntV H1 (.agg #[.bool s2, .slice a2 n2 c2]) (a.fmod b)) :=
  (quo_spec hA hB fa fb hb).mono fun u H1 ⟨hx, x, y, hu, h1, h2⟩ => by
    obtain ⟨s1, a1, n1, c1, rfl⟩ := h1.shape
    obtain ⟨s2, a2, n2, c2, rfl⟩ := h2.shape
    exact ⟨hx, _, _, _, _, _, _, _, _, hu, h1, h2⟩
def RatioR (H : SHeap) (v w : Value) (n d : Int) : Prop := ∃ (n' : Int) (d' gg : Nat) (s1 : Bool) (a1 : Option Addr) (n1 c1 : Nat) (s2 : Bool) (a2 : Option Addr) (n2 c2 : Nat), v = .agg #[.bool s1, .slice a1 n1 c1] ∧ w = .agg #[.bool s2, .slice a2 n2 c2] ∧ IntV H (.agg #[.bool s1, .slice a1 n1 c1]) n' ∧ IntV H (.agg #[.bool s2, .slice a2 n2 c2]) d' ∧ Fits n' ∧ Fits d' ∧ Fits gg ∧
  Int.gcd n' d' = gg ∧ 0 < gg ∧ gg ≤ d' ∧ (Rat.divInt n d).num = n' / gg ∧ (Rat.divInt n d).den = d' / gg ∧ (gg : Int) ∣ n' ∧ gg ∣ d' ∧ IntV H v n' ∧ IntV H w d'
theorem RatioR.mk' {H : SHeap} {v w : Value} {n d n' : Int} {d' : Nat} (hN : IntV H v n') (hD : IntV H w d') (fn' : Fits n') (fd' : Fits d') (hd' : d' ≠ 0) (hnd : Rat.divInt n' d' = Rat.divInt n d) : RatioR H v w n d := by
  have hgp : 0 < Nat.gcd n'.natAbs d' := Nat.gcd_pos_of_pos_right _ (by omega)
  have hgd : Nat.gcd n'.natAbs d' ≤ d' := Nat.le_of_dvd (by omega) (Nat.gcd_dvd_right _ _)
  obtain ⟨hnum, hden⟩ := divInt_nd n' d' hd'
  have hgn := Nat.gcd_dvd_left n'.natAbs d'
  have hgdd := Nat.gcd_dvd_right n'.natAbs d'
  obtain ⟨s1', a1', n1', c1', rfl⟩ := hN.shape
  obtain ⟨s2', a2', n2', c2', rfl⟩ := hD.shape
  rw [hnd] at hnum hden
  exact ⟨n', d', Nat.gcd n'.natAbs d', s1', a1', n1', c1', s2', a2', n2', c2', rfl, rfl, hN, hD, fn', fd', fd'.le (by omega), rfl, hgp, hgd, hnum, hden, Int.ofNat_dvd_left.2 hgn, hgdd, hN, hD⟩
theorem ratio_spec {v w : Value} {n d : Int} {H : SHeap} (hA : IntV H v n) (hB : IntV H w d) (fn : Fits n) (fd : Fits d) (hd : d ≠ 0) : SW prog 106 [v, w] H (fun u H1 => Ext H H1 ∧ RatQ H1 u (Rat.divInt n d)) := by
  refine SW.cps fun Q hQ => ?_
  apply into_num_Ratio (by simp)
  have wA := hA.whole
  have wB := hB.whole
  have hA0 := hA
  have hB0 := hB
  obtain ⟨s1, a1, n1, c1, rfl⟩ := hA.shape
  obtain ⟨s2, a2, n2, c2, rfl⟩ := hB.shape
  simp [Z_num_Ratio]
  have hx0 : Ext H (H ++ [.dead, .dead, .dead]) := Ext.more H (by simp)
  refine ZXt.join (by kernel_rfl) (fun F4 G4 H4 => Ext H H4 ∧ RatioR H4 (G4 2) (G4 3) n d) ?_ ?_
  · rintro K hK hKe
    obtain ⟨lb, rfl, hUb, hTb, hvb⟩ := hB.us
    simp
    refine Brt.mkD (fun hp => ?_) (fun hp => ?_)
    · have e : ((d.natAbs : Nat) : Int) = -d := by omega
      try simp
      refine SWt.mk (neg_spec (hA.ext hx0)) ?_
      rintro x H1 ⟨hx1, hx⟩
      refine ⟨hx1, ?_⟩
      simp
      refine SWt.mk (neg_spec (hB.ext (hx0.tr hx1))) ?_
      rintro y H2 ⟨hx2, hy⟩
      simp
      refine Putt.mk hx.whole ?_
      simp
      refine Putt.mk hy.whole ?_
      refine hK _ _ _ ⟨hx0.tr (hx1.tr hx2), RatioR.mk' (n' := -n) (d' := d.natAbs) (by simpa using hx.ext hx2) (by rw [e]; simpa using hy) fn.neg (by rw [e]; exact fd.neg) (by omega) (by rw [e, Rat.neg_divInt_neg])⟩
    · have e : ((d.natAbs : Nat) : Int) = d := by omega
      exact hK _ _ _ ⟨hx0, RatioR.mk' (n' := n) (d' := d.natAbs) (by simpa using hA.ext hx0) (by rw [e]; simpa using hB.ext hx0) fn (by rw [e]; exact fd) (by omega) (by rw [e])⟩
  · rintro F4 G4 H4 ⟨hx4, n', d', gg, s1', a1', n1', c1', s2', a2', n2', c2', he1, he2, hN, hD, fn', fd', fg, eg, hgp, hgd, hnum, hden, hgn, hgdd, -, -⟩
    simp at he1 he2
    simp [he1, he2]
    refine SWt.mk (gcd_spec hN hD fn' fd') ?_
    rintro g H5 ⟨hx5, hg⟩
    rw [eg] at hg
    have f1 : Fits 1 := Fits.small (by decide)
    simp
    refine Putt.mk hg.whole ?_
    simp
    have hx6 : Ext H5 (H5 ++ [.dead]) := Ext.dead H5
    refine SWt.mk (of_spec (by omega) (by omega)) ?_
    rintro o H6 ⟨hx7, ho⟩
    refine ⟨hx7, ?_⟩
    simp
    refine SWt.mk (icmp_spec (hg.ext (hx6.tr hx7)) ho fg f1) ?_
    rintro c H7 ⟨hx8, rfl⟩
    simp
    have hx57 : Ext H5 H7 := hx6.tr (hx7.tr hx8)
    have hx47 : Ext H4 H7 := hx5.tr hx57
    refine Brt.mkD (fun hc => ?_) (fun hc => ?_)
    · have hg1 : gg = 1 := by
        by_cases h1 : (gg : Int) < 1
        · omega
        · rw [if_neg h1] at hc
          split at hc
          · omega
          · cases hc
      rw [hg1] at hnum hden
      simp only [Int.natCast_one, Int.ediv_one, Nat.div_one] at hnum hden
      simp [he1, he2]
      simp [retOf]
      refine hQ _ _ ⟨hx4.tr hx47, _, _, _, _, rfl, ?_, ?_⟩
      · rw [hnum]; exact hN.ext hx47
      · rw [hden]; exact hD.ext hx47
    · try simp
      have hgn0 : (gg : Int) ≠ 0 := by omega
      simp [he1, he2]
      refine SWt.mk (quo_spec2 (hN.ext hx47) (hg.ext hx57) fn' fg hgn0) ?_
      rintro u H8 ⟨hx9, t1, b1, m1, e1, t2, b2, m2, e2, rfl, hq1, hr1⟩
      simp [he2]
      have hx10 : Ext H8 (H8 ++ [.dead, .dead]) := Ext.more H8 (by simp)
      have hx78 := hx9.tr hx10
      refine SWt.mk (quo_spec2 (hD.ext (hx47.tr hx78)) (hg.ext (hx57.tr hx78)) fd' fg hgn0) ?_
      rintro u H9 ⟨hx11, t3, b3, m3, e3, t4, b4, m4, e4, rfl, hq2, hr2⟩
      simp
      have hx12 : Ext H9 (H9 ++ [.dead, .dead]) := Ext.more H9 (by simp)
      have hq1' := hq1.ext (hx10.tr (hx11.tr hx12))
      have hq2' := hq2.ext hx12
      have e1 : n'.fdiv gg = (Rat.divInt n d).num := by rw [hnum, Int.fdiv_eq_ediv_of_nonneg _ (by omega)]
      have e2 : (d' : Int).fdiv gg = ((Rat.divInt n d).den : Int) := by rw [hden, Int.fdiv_eq_ediv_of_nonneg _ (by omega)]; rfl
      rw [e1] at hq1'
      rw [e2] at hq2'
      simp [retOf]
      exact hQ _ _ ⟨hx4.tr (hx47.tr (hx78.tr (hx11.tr hx12))), _, _, _, _, rfl, hq1', hq2'⟩
theorem rneg_spec {v : Value} {a : Rat} {H : SHeap} (hA : RatQ H v a) : SW prog 109 [v] H (fun u H1 => Ext H H1 ∧ RatQ H1 u (-a)) := by
  refine SW.cps fun Q hQ => ?_
  apply into_num_Rat_Neg (by simp)
  obtain ⟨s1, a1, n1, c1, s2, a2, n2, c2, rfl, hN, hD⟩ := RatV.shape hA
  simp [Z_num_Rat_Neg]
  have hx0 : Ext H (H ++ [.dead, .dead]) := Ext.more H (by simp)
  refine SWt.mk (int_sh (neg_spec (hN.ext hx0))) ?_
  rintro u H1 ⟨hx1, s3, a3, n3, c3, rfl, hu⟩
  refine ⟨hx1, ?_⟩
  simp [retOf]
  refine hQ _ _ ⟨hx0.tr hx1, _, _, _, _, rfl, ?_, hD.ext (hx0.tr hx1)⟩
  rw [Rat.neg_num]; exact hu
theorem qadd2_spec {v w : Value} {a b : Rat} {N M : Nat} {H : SHeap} (hA : RatQ H v a) (hB : RatQ H w b) (sa : SzQ N a) (sb : SzQ M b) (hN : N + M + 1 ≤ 32000000) : SW prog 77 [v, w] H (fun u H1 => Ext H H1 ∧ RatQ H1 u (a + b)) := by
  refine SW.cps fun Q hQ => ?_
  apply into_num_Rat_Add (by simp)
  obtain ⟨s1, a1, n1, c1, s2, a2, n2, c2, rfl, hN1, hD1⟩ := RatV.shape hA
  obtain ⟨s3, a3, n3, c3, s4, a4, n4, c4, rfl, hN2, hD2⟩ := RatV.shape hB
  simp [Z_num_Rat_Add]
  have hx0 : Ext H (H ++ [.dead, .dead, .dead]) := Ext.more H (by simp)
  refine ZXt.join (by kernel_rfl) (fun F4 G4 H4 => Ext H H4 ∧ F4 10 = .bool (decide (a.den = 1 ∧ b.den = 1))) ?_ ?_
  · rintro K hK -
    simp
    refine SWt.mk (integer_spec (RatV.ext hA hx0) (by have := a.den_pos; omega)) ?_
    rintro u H1 ⟨hx1, rfl⟩
    simp
    refine Brt.mkD (fun hc => ?_) (fun hc => ?_)
    · simp [hc]
      refine SWt.mk (integer_spec (RatV.ext hB (hx0.tr hx1)) (by have := b.den_pos; omega)) ?_
      rintro u H2 ⟨hx2, rfl⟩
      simp [hc]
      have hc' : a.den = 1 := by omega
      refine hK _ _ _ ⟨hx0.tr (hx1.tr hx2), ?_⟩
      simp [hc']
      have : ((b.den : Int) = 1) ↔ b.den = 1 := by omega
      simp [this]
    · simp [hc]
      have hc' : ¬ a.den = 1 := by omega
      exact hK _ _ _ ⟨hx0.tr hx1, by simp [hc']⟩
  · rintro F4 G4 H4 ⟨hx4, h10⟩
    simp only [mix_ap] at h10
    simp at h10
    have fa := sa.num (by omega)
    have fb := sb.num (by omega)
    have fda := sa.den (by omega)
    have fdb := sb.den (by omega)
    simp [h10]
    refine Brt.mk (fun hc => ?_) (fun hc => ?_)
    · simp at hc
      simp
      refine SWt.mk (add_spec (hN1.ext hx4) (hN2.ext hx4) fa fb) ?_
      rintro u H5 ⟨hx5, hu⟩
      simp
      refine SWt.mk (fromInt_spec hu) ?_
      rintro u H6 ⟨hx6, hu6⟩
      simp
      refine Putt.mk (RatV.whole hu6) ?_
      simp [retOf]
      refine hQ _ _ ⟨hx4.tr (hx5.tr hx6), ?_⟩
      have e : a + b = ((a.num + b.num : Int) : Rat) := by
        rw [Rat.intCast_add]
        congr 1
        · exact Rat.ext rfl hc.1
        · exact Rat.ext rfl hc.2
      show RatV _ _ _ _
      rw [e, Rat.num_intCast, Rat.den_intCast]
      exact hu6
    · try simp
      refine SWt.mk (mul_spec (hN1.ext hx4) (hD2.ext hx4) fa fdb) ?_
      rintro x H5 ⟨hx5, hx⟩
      refine ⟨hx5, ?_⟩
      simp
      refine SWt.mk (mul_spec (hN2.ext (hx4.tr hx5)) (hD1.ext (hx4.tr hx5)) fb fda) ?_
      rintro y H6 ⟨hx6, hy⟩
      refine ⟨hx6, ?_⟩
      have b1 : (a.num * b.den).natAbs < 2 ^ (N + M) := by
        rw [Int.natAbs_mul, Int.natAbs_natCast, Nat.pow_add]; exact Nat.mul_lt_mul'' sa.1 sb.2
      have b2 : (b.num * a.den).natAbs < 2 ^ (N + M) := by
        rw [Int.natAbs_mul, Int.natAbs_natCast, Nat.add_comm, Nat.pow_add]; exact Nat.mul_lt_mul'' sb.1 sa.2
      have b3 : ((a.den : Int) * b.den).natAbs < 2 ^ (N + M) := by
        rw [Int.natAbs_mul, Int.natAbs_natCast, Int.natAbs_natCast, Nat.pow_add]; exact Nat.mul_lt_mul'' sa.2 sb.2
      simp
      refine SWt.mk (add_spec (hx.ext hx6) hy (Fits.bits b1 (by omega)) (Fits.bits b2 (by omega))) ?_
      rintro z H7 ⟨hx7, hz⟩
      refine ⟨hx7, ?_⟩
      simp
      have hx47 := hx4.tr (hx5.tr (hx6.tr hx7))
      refine SWt.mk (mul_spec (hD1.ext hx47) (hD2.ext hx47) fda fdb) ?_
      rintro w H8 ⟨hx8, hw⟩
      simp
      have b4 : (a.num * b.den + b.num * a.den).natAbs < 2 ^ (N + M + 1) := by
        have := Int.natAbs_add_le (a.num * b.den) (b.num * a.den)
        rw [Nat.pow_succ]; omega
      refine SWt.mk (ratio_spec (hz.ext hx8) hw (Fits.bits b4 (by omega)) (Fits.bits b3 (by omega)) (by have := Nat.mul_ne_zero a.den_nz b.den_nz; exact_mod_cast this)) ?_
      rintro w H9 ⟨hx9, hw9⟩
      simp
      refine Putt.mk hw9.whole ?_
      simp [retOf]
      refine hQ _ _ ⟨hx47.tr (hx8.tr hx9), ?_⟩
      rw [Rat.add_def', ← Rat.divInt_ofNat]
      simpa using hw9
theorem qadd_spec {v w : Value} {a b : Rat} {N : Nat} {H : SHeap} (hA : RatQ H v a) (hB : RatQ H w b) (sa : SzQ N a) (sb : SzQ N b) (hN : N ≤ 1000000) : SW prog 77 [v, w] H (fun u H1 => Ext H H1 ∧ RatQ H1 u (a + b)) := qadd2_spec hA hB sa sb (by omega)
theorem qsub_spec {v w : Value} {a b : Rat} {N : Nat} {H : SHeap} (hA : RatQ H v a) (hB : RatQ H w b) (sa : SzQ N a) (sb : SzQ N b) (hN : N ≤ 1000000) : SW prog 87 [v, w] H (fun u H1 => Ext H H1 ∧ RatQ H1 u (a - b)) := by
  refine SW.cps fun Q hQ => ?_
  apply into_num_Rat_Sub (by simp)
  obtain ⟨s1, a1, n1, c1, s2, a2, n2, c2, rfl, hN1, hD1⟩ := RatV.shape hA
  obtain ⟨s3, a3, n3, c3, s4, a4, n4, c4, rfl, hN2, hD2⟩ := RatV.shape hB
  simp [Z_num_Rat_Sub]
  have hx0 : Ext H (H ++ [.dead, .dead, .dead]) := Ext.more H (by simp)
  refine SWt.mk (rneg_spec (hB.ext hx0)) ?_
  rintro u H1 ⟨hx1, hu⟩
  refine ⟨hx1, ?_⟩
  simp
  refine SWt.mk (qadd_spec (hA.ext (hx0.tr hx1)) hu sa sb.neg hN) ?_
  rintro w H2 ⟨hx2, hw⟩
  simp
  refine Putt.mk hw.whole ?_
  simp [retOf]
  refine hQ _ _ ⟨hx0.tr (hx1.tr hx2), ?_⟩
  rw [Rat.sub_eq_add_neg]
  exact hw
theorem qcmp2_spec {v w : Value} {a b : Rat} {N M : Nat} {H : SHeap} (hA : RatQ H v a) (hB : RatQ H w b) (sa : SzQ N a) (sb : SzQ M b) (hN : N + M + 1 ≤ 32000000) : SW prog 35 [v, w] H (fun u H1 => Ext H H1 ∧ u = .int .i64 (if a < b then -1 else if a = b then 0 else 1)) := by
  refine SW.cps fun Q hQ => ?_
  apply into_num_Rat_Cmp (by simp)
  obtain ⟨s1, a1, n1, c1, s2, a2, n2, c2, rfl, hN1, hD1⟩ := RatV.shape hA
  obtain ⟨s3, a3, n3, c3, s4, a4, n4, c4, rfl, hN2, hD2⟩ := RatV.shape hB
  simp [Z_num_Rat_Cmp]
  have hx0 : Ext H (H ++ [.dead, .dead]) := Ext.more H (by simp)
  refine SWt.mk (mul_spec (hN1.ext hx0) (hD2.ext hx0) (sa.num (by omega)) (sb.den (by omega))) ?_
  rintro x H1 ⟨hx1, hx⟩
  refine ⟨hx1, ?_⟩
  simp
  refine SWt.mk (mul_spec (hN2.ext (hx0.tr hx1)) (hD1.ext (hx0.tr hx1)) (sb.num (by omega)) (sa.den (by omega))) ?_
  rintro y H2 ⟨hx2, hy⟩
  have b1 : (a.num * b.den).natAbs < 2 ^ (N + M) := by
    rw [Int.natAbs_mul, Int.natAbs_natCast, Nat.pow_add]; exact Nat.mul_lt_mul'' sa.1 sb.2
  have b2 : (b.num * a.den).natAbs < 2 ^ (N + M) := by
    rw [Int.natAbs_mul, Int.natAbs_natCast, Nat.add_comm, Nat.pow_add]; exact Nat.mul_lt_mul'' sb.1 sa.2
  simp
  refine SWt.mk (icmp_spec (hx.ext hx2) hy (Fits.bits b1 (by omega)) (Fits.bits b2 (by omega))) ?_
  rintro c H3 ⟨hx3, rfl⟩
  simp [retOf]
  refine hQ _ _ ⟨hx0.tr (hx1.tr (hx2.tr hx3)), ?_⟩
  simp only [Rat.lt_iff, Rat.eq_iff_mul_eq_mul]
theorem qcmp_spec {v w : Value} {a b : Rat} {N : Nat} {H : SHeap} (hA : RatQ H v a) (hB : RatQ H w b) (sa : SzQ N a) (sb : SzQ N b) (hN : N ≤ 1000000) : SW prog 35 [v, w] H (fun u H1 => Ext H H1 ∧ u = .int .i64 (if a < b then -1 else if a = b then 0 else 1)) := qcmp2_spec hA hB sa sb (by omega)
theorem qsign_spec {v : Value} {a : Rat} {H : SHeap} (hA : RatQ H v a) : SW prog 75 [v] H (fun u H1 => Ext H H1 ∧ u = .int .i64 (if a < 0 then -1 else if a = 0 then 0 else 1)) :=
  (rsign_spec hA).mono fun u H1 ⟨hx, hu⟩ => ⟨hx, by
    rw [hu]
    have h1 : a.num = 0 ↔ a = 0 := Rat.num_eq_zero
    have h2 : 0 ≤ a.num ↔ 0 ≤ a := Rat.num_nonneg
    have h3 : a.num < 0 ↔ a < 0 := by rw [← Int.not_le, h2, Rat.not_le]
    simp only [h1, h3]⟩
theorem qwhole_spec {n : Int} {H : SHeap} (h1 : -9223372036854775808 ≤ n) (h2 : n < 9223372036854775808) : SW prog 59 [.int .i64 n] H (fun u H1 => Ext H H1 ∧ RatQ H1 u (n : Rat)) :=
  (whole_spec h1 h2).mono fun u H1 ⟨hx, hu⟩ => ⟨hx, by show RatV _ _ _ _; rw [Rat.num_intCast, Rat.den_intCast]; exact hu⟩
theorem small_spec {v : Value} {a : Int} {H : SHeap} (hA : IntV H v a) (h0 : a.natAbs ≤ 4611686018427387904) : SW prog 37 [v] H (fun u H1 => Ext H H1 ∧ u = .tuple #[.int .i64 a, .bool true]) := by
  refine SW.cps fun Q hQ => ?_
  apply into_num_Int_Small (by simp)
  obtain ⟨s1, a1, n1, c1, rfl⟩ := hA.shape
  obtain ⟨l, rfl, hU, hT, hv⟩ := hA.us
  have hl : l.length ≤ 2 := hT.length_le (by rw [hv]; omega)
  simp [Z_num_Int_Small]
  have hx0 : Ext H (H ++ [.dead]) := Ext.more H (by simp)
  refine tx_lnR (by simpa using (hU.ext hx0).row) (by simp) ?_
  simp
  refine Brt.mkD (fun hc => by omega) (fun hc => ?_)
  try simp
  refine tx_lnR (by simpa using (hU.ext hx0).row) (by simp) ?_
  simp
  refine LoopZt.range (by kernel_rfl) l.length (by omega) (by simp) (by rfl) (by simp) (by decide) (by decide) (fun i F2 G2 H2 => H2 = H ++ [.dead] ∧ ∃ n : Nat, F2 4 = .int .u64 n ∧ n = val (l.take i)) ?_ ?_ ?_
  · exact ⟨rfl, 0, by simp, by simp [val]⟩
  · rintro i F2 G2 H2 hi hF ⟨rfl, n, h4, hn⟩ K hK
    simp at hF h4
    simp [hF]
    obtain ⟨y, hy⟩ : ∃ y, l[i]?.getD 0 = y := ⟨_, rfl⟩
    have hye : l[i]? = some y := by rw [← hy, gtE hi]; rfl
    have hyl : y < 4294967296 := hy ▸ hU.lt i
    refine tx_elem (R := U32R) (n := i) (by simpa using (hU.ext hx0).row) (by simp [hF]) hye (by simp) (by simp) (by simp) (.inr rfl) ?_
    rintro p u ⟨rfl, -⟩
    have hyw : IntKind.u64.wrap (y : Int) = (y : Int) := wu64 (by omega) (by omega)
    have hval : val (l.take (i + 1)) = n + 4294967296 ^ i * y := by rw [val_take_succ, hy, ← hn]
    have hn0 : n < 4294967296 ^ i := by
      rw [hn]
      have := val_lt (l := l.take i) fun x hx => hU.2 x (List.mem_of_mem_take hx)
      rwa [List.length_take, Nat.min_eq_left (by omega)] at this
    rcases (show i = 0 ∨ i = 1 by omega) with rfl | rfl
    · have hnz : n = 0 := by simp at hn0; exact hn0
      subst hnz
      have hor : or64 (0 : Int) (y : Int) = (y : Int) := by
        have := or_join (r := 0) (by decide) hyl
        simpa using this
      have hmw : IntKind.i64.wrap 0 = 0 := by decide
      simp [hF, h4, hyw, hmw, hor]
      exact hK _ _ _ (by simp [hF]) ⟨rfl, y, by simp, by rw [hval]; simp⟩
    · have hmw : IntKind.i64.wrap 32 = 32 := by decide
      obtain ⟨s, hs⟩ : ∃ s, y * 4294967296 = s := ⟨_, rfl⟩
      have hsh : IntKind.u64.wrap ((y : Int) * 4294967296) = (s : Int) := by rw [wu64 (by omega) (by omega)]; omega
      have hj := or_join (r := y) hyl (show n < 4294967296 by simpa using hn0)
      rw [hs] at hj
      obtain ⟨t, ht⟩ : ∃ t, s + n = t := ⟨_, rfl⟩
      have hj2 : or64 (n : Int) (s : Int) = (t : Int) := by
        rw [← ht, ← hj]; unfold or64; congr 2; rw [BitVec.or_comm]
      simp [hF, h4, hyw, hmw, hsh, hj2]
      exact hK _ _ _ (by simp [hF]) ⟨rfl, t, by simp, by rw [hval]; omega⟩
  · rintro F2 G2 H2 hF ⟨rfl, n, h4, hn⟩
    rw [List.take_length, hv] at hn
    simp at h4
    simp [h4]
    refine Brt.mkD (fun hc => by omega) (fun hc => ?_)
    try simp
    have hni : IntKind.i64.wrap (n : Int) = (n : Int) := w64 (by omega) (by omega)
    refine Brt.mkD (fun ha => ?_) (fun ha => ?_)
    · have hneg : IntKind.i64.wrap (-(n : Int)) = -(n : Int) := w64 (by omega) (by omega)
      simp [h4, hni, hneg, retOf]
      refine hQ _ _ ⟨hx0, ?_⟩
      congr 4
      omega
    · simp [h4, hni, retOf]
      refine hQ _ _ ⟨hx0, ?_⟩
      congr 4
      omega
def bs' (l : List Nat) : ByteArray := ⟨(l.map UInt8.ofNat).toArray⟩
def Bytes (l : List Nat) : Prop := ∀ x ∈ l, x < 256
theorem bs_size (l : List Nat) : (bs' l).size = l.length := by simp [bs', ByteArray.size]
theorem bs_get (l : List Nat) (h : Bytes l) (i : Nat) (hi : i < l.length) : ((bs' l).data.getD i 0).toNat = l[i]?.getD 0 := by
  have hx := h l[i] (List.getElem_mem hi)
  simp only [bs', Array.getD_eq_getD_getElem?, List.getElem?_toArray, List.getElem?_map, gtE hi, Option.map_some, Option.getD_some]
  simp [UInt8.toNat_ofNat, Nat.mod_eq_of_lt hx]
theorem bs_toList (l : List Nat) : (bs' l).toList = l.map UInt8.ofNat := by
  rw [ByteArray.toList_eq]
  simp [bs']
theorem bs_append (a b : List Nat) : bs' a ++ bs' b = bs' (a ++ b) := by
  apply ByteArray.ext
  simp [bs']
theorem bs_extract (l : List Nat) (i j : Nat) : (bs' l).extract i j = bs' ((l.drop i).take (j - i)) := by
  apply ByteArray.ext
  simp [bs', List.map_drop, List.map_take]
theorem ofNat_inj {x y : Nat} (hx : x < 256) (hy : y < 256) (h : UInt8.ofNat x = UInt8.ofNat y) : x = y := by
  have := congrArg UInt8.toNat h
  simpa [UInt8.toNat_ofNat, Nat.mod_eq_of_lt hx, Nat.mod_eq_of_lt hy] using this
theorem bs_beq {a b : List Nat} (ha : Bytes a) (hb : Bytes b) : ((bs' a).toList == (bs' b).toList) = decide (a = b) := by
  rw [bs_toList, bs_toList]
  by_cases h : a = b
  · subst h; simp
  · rw [decide_eq_false h, beq_eq_false_iff_ne]
    intro e
    apply h
    apply List.ext_getElem?
    intro i
    have := congrArg (fun l : List UInt8 => l[i]?) e
    simp only [List.getElem?_map] at this
    cases h1 : a[i]? with
    | none =>
      cases h2 : b[i]? with
      | none => rfl
      | some y => rw [h1, h2] at this; cases this
    | some x =>
      cases h2 : b[i]? with
      | none => rw [h1, h2] at this; simp at this
      | some y =>
        rw [h1, h2] at this
        simp only [Option.map_some, Option.some.injEq] at this
        rw [ofNat_inj (ha x (List.mem_of_getElem? h1)) (hb y (List.mem_of_getElem? h2)) this]
theorem strOfNums_bs (l : List Nat) : strOfNums (l.map fun n : Nat => (n : Int)) = bs' l := by
  apply ByteArray.ext
  simp [strOfNums, bs']
def U8R (H : SHeap) (v : Value) (n : Nat) : Prop := v = .int .u8 (n : Int) ∧ n < 256
instance : Mono U8R := ⟨fun h _ => h⟩
theorem wh_u8 (n : Int) : Whole prog 5 (.int .u8 n) := ⟨by kernel_rfl, rfl, by rw [if_neg (by simp [isAg])]; exact ⟨by kernel_rfl, rfl⟩⟩
theorem Row.bytes {H : SHeap} {e : Nat} {v : Value} {l : List Nat} (h : Row e 1 false U8R H v l) : Sl H e 1 v l.length ((l.map fun n : Nat => (n : Int)).map (Value.int .u8)) ∧ Bytes l := by
  obtain ⟨cs, h1, h2⟩ := h
  have hcs : cs = (l.map fun n : Nat => (n : Int)).map (Value.int .u8) := by
    obtain ⟨a, cap, hv, h3, h4, h5⟩ := h1
    apply List.ext_getElem?
    intro i
    by_cases hi : i < l.length
    · have := (h2 i _ (gtE hi)).1
      simp only [elV, Bool.false_eq_true, if_false] at this
      rw [gtE (by omega)] at this ⊢
      simp only [Option.getD_some] at this
      rw [this]
      simp [gtE hi]
    · rw [List.getElem?_eq_none (by omega), List.getElem?_eq_none (by simp; omega)]
  subst hcs
  exact ⟨h1, fun x hx => by obtain ⟨i, hi⟩ := List.getElem?_of_mem hx; exact (h2 i x hi).2⟩
theorem reverse_spec {k : Nat} {v : Value} {xs : List Nat} {H : SHeap} (hO : OwR k 5 1 false U8R H v xs) (hl : xs.length < 4611686018427387904) :
    SW prog 108 [v] H (fun u H1 => u = .tuple #[] ∧ OwR k 5 1 false U8R H1 v xs.reverse ∧ ∀ H0 : SHeap, H0.length ≤ k → Ext H0 H → Ext H0 H1) := by
  refine SW.cps fun Q hQ => ?_
  apply into_slices_Reverse_Sbyte_byte (by simp)
  simp [Z_slices_Reverse_Sbyte_byte]
  refine tx_lnR (by simpa using hO.row) (by simp) ?_
  have hn : IntKind.i64.wrap ((xs.length : Int) - 1) = (xs.length : Int) - 1 := w64 (by omega) (by omega)
  simp [hn]
  refine LoopZt.mk (by kernel_rfl) (fun m F1 G1 H1 => ∃ (i : Nat) (ys : List Nat), m = xs.length - 2 * i ∧ F1 2 = .int .i64 i ∧ F1 3 = .int .i64 ((xs.length : Int) - 1 - i) ∧ i ≤ xs.length ∧ 2 * i ≤ xs.length + 1 ∧ OwR k 5 1 false U8R H1 v ys ∧ ys.length = xs.length ∧ (∀ H0 : SHeap, H0.length ≤ k → Ext H0 H → Ext H0 H1) ∧
    ∀ j, j < xs.length → ys[j]? = if j < i ∨ xs.length - 1 - i < j then xs[xs.length - 1 - j]? else xs[j]?) xs.length ?_ ?_
  · refine ⟨0, xs, by omega, by simp, by simp, by omega, by omega, hO, rfl, fun _ _ h => h, fun j hj => ?_⟩
    rw [if_neg (by omega)]
  · rintro m F1 G1 H1 ⟨i, ys, rfl, h2, h3, hi, hi2, hO1, hyl, hx1, hys⟩ K hK
    simp at h2 h3
    simp [h2, h3]
    refine Brt.mkD (fun hc => ?_) (fun hc => ?_)
    · obtain ⟨j, hj⟩ : ∃ j, xs.length - 1 - i = j := ⟨_, rfl⟩
      have hji : (xs.length : Int) - 1 - i = (j : Int) := by omega
      rw [hji] at h3 hc
      obtain ⟨a, ha⟩ : ∃ a, ys[j]? = some a := ⟨_, gtE (by omega)⟩
      obtain ⟨b, hb⟩ : ∃ b, ys[i]? = some b := ⟨_, gtE (by omega)⟩
      have e1 : IntKind.i64.wrap ((i : Int) + 1) = (i : Int) + 1 := w64 (by omega) (by omega)
      have e2 : IntKind.i64.wrap ((j : Int) - 1) = (j : Int) - 1 := w64 (by omega) (by omega)
      try simp
      simp [h2, h3]
      refine tx_elem (R := U8R) (n := j) (by simpa using hO1.row) (by simp) ha (by simp) (by simp) (by simp) (.inr rfl) ?_
      rintro p1 u1 ⟨rfl, ha8⟩
      simp [h2, h3]
      refine tx_elem (R := U8R) (n := i) (by simpa using hO1.row) (by simp) hb (by simp) (by simp) (by simp) (.inr rfl) ?_
      rintro p2 u2 ⟨rfl, hb8⟩
      refine tx_put (R := U8R) (n := i) (a := a) (by simpa using hO1) (by simp) (by omega) ⟨by simp, ha8⟩ (by simpa using wh_u8 _) (by simp) (fun _ _ _ _ _ h => h) (by simp) (by simp) (by simp) (by decide) ?_
      rintro p3 H2 hO2 hx2 - - -
      simp at hO2
      refine tx_put (R := U8R) (n := j) (a := b) (by simpa using hO2) (by simp) (by simp; omega) ⟨by simp, hb8⟩ (by simpa using wh_u8 _) (by simp) (fun _ _ _ _ _ h => h) (by simp) (by simp) (by simp) (by decide) ?_
      rintro p4 H3 hO3 hx3 - - -
      simp at hO3
      simp [h2, h3, e1, e2]
      refine hK (xs.length - 2 * (i + 1)) _ _ _ (by omega) ⟨i + 1, _, rfl, by simp, by simp; omega, by omega, by omega, by simpa using hO3, by simp [hyl], fun H0 h0 hx => hx3 H0 h0 (hx2 H0 h0 (hx1 H0 h0 hx)), fun t ht => ?_⟩
      have hyj := hys j (by omega)
      have hyi := hys i (by omega)
      rw [if_neg (by omega), ha] at hyj
      rw [if_neg (by omega), hb] at hyi
      by_cases htj : t = j
      · subst htj
        rw [List.getElem?_set_self (by simp; omega), if_pos (by omega), show xs.length - 1 - t = i by omega, hyi]
      · rw [List.getElem?_set_ne (Ne.symm htj)]
        by_cases hti : t = i
        · subst hti
          rw [List.getElem?_set_self (by omega), if_pos (by omega), hj, hyj]
        · rw [List.getElem?_set_ne (Ne.symm hti), hys t ht]
          by_cases hq : t < i ∨ xs.length - 1 - i < t
          · rw [if_pos hq, if_pos (by omega)]
          · rw [if_neg hq, if_neg (by omega)]
    · try simp
      simp [retOf]
      refine hQ _ _ ⟨rfl, ?_, hx1⟩
      have : ys = xs.reverse := by
        apply List.ext_getElem?
        intro t
        by_cases ht : t < xs.length
        · rw [hys t ht, List.getElem?_reverse ht]
          split
          · rfl
          · have : t = xs.length - 1 - t := by omega
            rw [← this]
        · rw [List.getElem?_eq_none (by omega), List.getElem?_eq_none (by simp; omega)]
      rw [← this]
      exact hO1
def rdec (n : Nat) : List Nat := if h : n = 0 then [] else (48 + n % 10) :: rdec (n / 10)
termination_by n
decreasing_by omega
theorem rdec_zero : rdec 0 = [] := by unfold rdec; simp
theorem rdec_pos {n : Nat} (h : 0 < n) : rdec n = (48 + n % 10) :: rdec (n / 10) := by
  conv => lhs; unfold rdec
  rw [dif_neg (by omega)]
theorem rdec_bytes (n : Nat) : Bytes (rdec n) := by
  induction n using Nat.strongRecOn with
  | _ n ih =>
    rcases Nat.eq_zero_or_pos n with h | h
    · subst h; rw [rdec_zero]; intro x hx; cases hx
    · rw [rdec_pos h]
      intro x hx
      rcases List.mem_cons.1 hx with rfl | hx
      · omega
      · exact ih (n / 10) (by omega) x hx
theorem rdec_len (n k : Nat) (h : n < 10 ^ k) : (rdec n).length ≤ k := by
  induction k generalizing n with
  | zero => simp at h; subst h; rw [rdec_zero]; simp
  | succ k ih =>
    rcases Nat.eq_zero_or_pos n with h0 | h0
    · subst h0; rw [rdec_zero]; simp
    · rw [rdec_pos h0]
      simp only [List.length_cons]
      have := ih (n / 10) (by rw [Nat.pow_succ] at h; omega)
      omega
def dec (n : Nat) : List Nat := if n = 0 then [48] else (rdec n).reverse
theorem dec_bytes (n : Nat) : Bytes (dec n) := by
  unfold dec
  split
  · intro x hx; simp at hx; omega
  · intro x hx; exact rdec_bytes n x (by simpa using hx)
@[simp] theorem boolOf_undef : boolOf undef = none := rfl
@[simp] theorem Gdt_none (w : Bool) (K1 K2 : Prop) (tk : Tok K1 K2) : Gdt K1 K2 tk none w = K2 := by unfold Gdt Gd; simp
theorem text_spec {v : Value} {x : List Nat} {H : SHeap} (hX : Us H 124 v x) (hT : Trim x) (hl : x.length ≤ 1000000) : SW prog 78 [v] H (fun u H1 => Ext H H1 ∧ u = .string (bs' (dec (val x)))) := by
  refine SW.cps fun Q hQ => ?_
  apply into_num_text (by simp)
  simp [Z_num_text]
  refine tx_lnR (by simpa using hX.row) (by simp) ?_
  simp
  refine Brt.mkD (fun hc => ?_) (fun hc => ?_)
  · have hx0 : x = [] := by simpa using hc
    subst hx0
    simp [retOf]
    exact hQ _ _ ⟨Ext.refl _, by rw [show dec (val []) = [48] from by simp [dec, val]]; rfl⟩
  try simp
  have hpos : 0 < val x := hT.pos.1 (by
    rcases Nat.eq_zero_or_pos x.length with h | h
    · exact absurd (by simpa using h) hc
    · exact h)
  have hdecl : (rdec (val x)).length < 100000000 := by
    have h1 := pwV 1000000 (val_lt hX.2) hl
    have := rdec_len _ _ h1
    omega
  refine LoopZt.mk (by kernel_rfl) (fun n F1 G1 H1 => Ext H H1 ∧ ∃ (y b : List Nat), n = val y ∧ Us H1 124 (F1 0) y ∧ Trim y ∧ y.length ≤ 1000000 ∧ OwR H.length 5 1 false U8R H1 (F1 3) b ∧ rdec (val x) = b ++ rdec (val y)) (val x) ?_ ?_
  · exact ⟨Ext.refl _, x, [], rfl, by simpa using hX, hT, hl, by simpa using OwR.nil _ _ _ _ _ _, rfl⟩
  · rintro n F1 G1 H1 ⟨hx1, y, b, rfl, hy, hTy, hly, hb, hd⟩ K hK
    simp at hy hb
    simp
    refine tx_lnR (by simpa using hy.row) (by simp) ?_
    simp
    refine Brt.mkD (fun hp => ?_) (fun hp => ?_)
    · try simp
      have hvy : 0 < val y := hTy.pos.1 hp
      refine SWt.mk (byWord_spec (w := 1000000000) hy (by omega) (by decide) (by decide)) ?_
      rintro u H2 ⟨hx2, q, lq, rfl, hq, hTq, hvq⟩
      obtain ⟨r0, hr0⟩ : ∃ r0, val y % 1000000000 = r0 := ⟨_, rfl⟩
      have hr0l : r0 < 1000000000 := by rw [← hr0]; exact Nat.mod_lt _ (by decide)
      rw [hr0]
      simp
      have hM : val y = val lq * 1000000000 + r0 := by have := Nat.div_add_mod (val y) 1000000000; rw [hvq]; omega
      refine LoopZt.mk (by kernel_rfl) (fun m F3 G3 H3 => Us H3 124 q lq ∧ Ext H H3 ∧ ∃ (r : Nat) (b' : List Nat), m ≤ 9 ∧ F3 6 = .int .i64 ((9 - m : Nat) : Int) ∧ F3 5 = .int .u32 r ∧ r < 10 ^ m ∧ OwR H.length 5 1 false U8R H3 (F3 3) b' ∧ rdec (val x) = b' ++ rdec (val lq * 10 ^ m + r)) 9 ?_ ?_
      · refine ⟨hq, hx1.tr hx2, r0, b, by omega, by simp, by simp, by omega, by simpa using Mono.ext hb hx2, ?_⟩
        rw [hd, hM]
      · rintro m F3 G3 H3 ⟨hx3, hx3', r, b', hm, h6, h5, hr, hb', hd'⟩ K2 hK2
        simp at h6 h5 hb'
        simp only [tzx_seq]
        refine ZXt.join (by kernel_rfl) (fun F4 G4 H4 => H4 = H3 ∧ ∃ c : Bool, F4 28 = .bool c ∧ (c = true ↔ 0 < m ∧ (0 < lq.length ∨ 0 < r))) ?_ ?_
        · rintro K3 hK3 -
          rcases Nat.eq_zero_or_pos m with h0 | h0
          · have e9 : (((9 - m : Nat) : Int) < 9) = False := by simp; omega
            simp [h6, e9]
            refine hK3 _ _ _ ⟨rfl, false, by simp, ?_⟩
            simp [h0]
          · have e9 : (((9 - m : Nat) : Int) < 9) = True := by simp; omega
            simp [h6, e9]
            refine tx_lnR (by simpa using hx3.row) (by simp) ?_
            rcases Nat.eq_zero_or_pos lq.length with hl0 | hl0
            · simp [h6, e9, hl0, h5]
              refine hK3 _ _ _ ⟨rfl, decide (0 < r), by simp, ?_⟩
              simp [h0, hl0]
            · have e10 : ((0 : Int) < (lq.length : Int)) = True := by simp; omega
              simp [h6, e9, hl0, e10]
              refine hK3 _ _ _ ⟨rfl, true, by simp, ?_⟩
              simp [h0, hl0]
        · rintro F4 G4 H4 ⟨rfl, c, h28, hc⟩
          simp at h28
          simp [h28]
          refine Brt.mk (fun hcc => ?_) (fun hcc => ?_)
          · have hcd := hc.1 hcc
            obtain ⟨m', rfl⟩ : ∃ m', m = m' + 1 := ⟨m - 1, by omega⟩
            try simp
            have e1 : IntKind.u32.wrap (48 + ((r % 10 : Nat) : Int)) = ((48 + r % 10 : Nat) : Int) := by rw [wu32 (by omega) (by omega)]; omega
            have e2 : ((r : Int).tmod 10) = ((r % 10 : Nat) : Int) := rfl
            have e3 : ((r : Int).tdiv 10) = ((r / 10 : Nat) : Int) := rfl
            obtain ⟨dg, hdg⟩ : ∃ dg, r % 10 = dg := ⟨_, rfl⟩
            obtain ⟨r', hr'⟩ : ∃ r', r / 10 = r' := ⟨_, rfl⟩
            rw [hdg] at e1 e2
            rw [hr'] at e3
            obtain ⟨cg, hcg⟩ : ∃ cg, 48 + dg = cg := ⟨_, rfl⟩
            rw [hcg] at e1
            have hrl : r < 4294967296 := by
              have : 10 ^ (m' + 1) ≤ 10 ^ 9 := Nat.pow_le_pow_right (by decide) hm
              omega
            have e4 : IntKind.u8.wrap (cg : Int) = (cg : Int) := wu8 (by omega) (by omega)
            have e5 : IntKind.u32.wrap (r' : Int) = (r' : Int) := wu32 (by omega) (by omega)
            simp [h5, e1, e2, e4]
            refine tx_push (R := U8R) (xs := b') (a := cg) (k := H.length) (e := 5) (sz := 1) (by_ := 1) (ag := false) (z := .int .u8 0) (by simpa using hb') ⟨by simp, by omega⟩ (by simpa using wh_u8 _) (by simp) (fun _ _ _ _ _ h => h) (by simp) (by simp) (by simp) (by simp) (by simp) (by simp) (by simp) (by rfl) (by rfl) (by decide) (by decide) (by decide) ?_ (Ext.len hx3') ?_
            · have : b'.length ≤ (rdec (val x)).length := by rw [hd']; simp
              omega
            rintro p v' H5 hO5 hx5 hk5
            have e6 : IntKind.i64.wrap (((9 - (m' + 1) : Nat) : Int) + 1) = ((9 - m' : Nat) : Int) := by rw [w64 (by omega) (by omega)]; omega
            simp at e6
            simp [h5, e3, e5, h6, e6]
            obtain ⟨P, hP⟩ : ∃ P, 10 ^ m' = P := ⟨_, rfl⟩
            have hP1 : 10 ^ (m' + 1) = P * 10 := by rw [Nat.pow_succ, hP]
            rw [hP1] at hr hd'
            have hPp : 0 < P := by rw [← hP]; exact Nat.pow_pos (by decide)
            refine hK2 m' _ _ _ (by omega) ⟨⟨hx3.1.kept hk5 (by decide), hx3.2⟩, hx5 _ (Nat.le_refl _) hx3', r', b' ++ [cg], by omega, by simp [e6], by simp, by rw [hP]; omega, by simpa using hO5, ?_⟩
            rw [hP]
            rw [hd']
            have h7 : val lq * (P * 10) + r = (val lq * P) * 10 + r := by rw [Nat.mul_assoc]
            rw [h7]
            rw [rdec_pos (n := (val lq * P) * 10 + r) (by
              rcases hcd.2 with h | h
              · have h8 := hTq.pos.1 h
                have h9 := Nat.mul_pos h8 hPp
                omega
              · omega)]
            have h10 : (val lq * P * 10 + r) % 10 = dg := by omega
            have h11 : (val lq * P * 10 + r) / 10 = val lq * P + r' := by omega
            rw [h10, h11, hcg]
            simp
          · try simp
            have hM2 : val lq * 10 ^ m + r = val lq := by
              have hn : ¬(0 < m ∧ (0 < lq.length ∨ 0 < r)) := fun h => by rw [hc.2 h] at hcc; cases hcc
              rcases Nat.eq_zero_or_pos m with h0 | h0
              · subst h0; simp at hr ⊢; omega
              · have h1 : ¬ 0 < lq.length := fun h => hn ⟨h0, Or.inl h⟩
                have h2 : ¬ 0 < r := fun h => hn ⟨h0, Or.inr h⟩
                have h3 : val lq = 0 := by
                  rcases Nat.eq_zero_or_pos (val lq) with h | h
                  · exact h
                  · exact absurd (hTq.pos.2 h) h1
                rw [h3]; omega
            rw [hM2] at hd'
            refine hK (val lq) _ _ _ (by omega) ⟨hx3', lq, b', rfl, by simpa using hx3, hTq, ?_, by simpa using hb', hd'⟩
            rcases Nat.lt_or_ge y.length lq.length with h | h
            · have := Trim.lt_of_length hTq hy.2 h
              omega
            · omega
    · try simp
      have hy0 : val y = 0 := by
        rcases Nat.eq_zero_or_pos (val y) with h | h
        · exact h
        · exact absurd (hTy.pos.2 h) hp
      rw [hy0, rdec_zero, List.append_nil] at hd
      refine SWt.mk (reverse_spec hb (by rw [← hd]; omega)) ?_
      rintro u H2 ⟨rfl, hb2, hx2⟩
      have hbs := hb2.row.bytes
      simp only [List.length_reverse] at hbs
      simp
      refine tx_cvb (xs := b.reverse.map fun n : Nat => (n : Int)) (by rfl) (by rfl) (by rfl) (by simpa using hbs.1) ?_
      simp [retOf, strOfNums_bs]
      refine hQ _ _ ⟨hx2 _ (Nat.le_refl _) hx1, ?_⟩
      rw [← List.map_reverse, strOfNums_bs, ← hd]
      unfold dec
      rw [if_neg (by omega)]
variable {P : Program} {r : List XOp} {Q : Fr → SHeap → Prop} {F : Fr} {H : SHeap}
theorem tx_lnS {d t : Nat} {x : Operand} {l : List Nat} {tk : Tok (ln d t x :: r) Q} (hv : fev F x = .string (bs' l)) (ht : strT P t = true) (K : XWt P r Q .mk (upd F d (.int .i64 l.length)) H) : XWt P (ln d t x :: r) Q tk F H := by
  rw [tx_ln, hv, lenOf_str, if_pos ht, bs_size]
  exact K
theorem cat_bs {a b : List Nat} (h : a.length + b.length ≤ 9223372036854775807) : (if (bs' a).size + (bs' b).size ≤ 9223372036854775807 then some (Value.string (bs' a ++ bs' b)) else none) = some (.string (bs' (a ++ b))) := by
  rw [bs_size, bs_size, if_pos h, bs_append]
theorem lit_minus : ({ data := #[45] } : ByteArray) = bs' [45] := rfl
theorem lit_over : ({ data := #[47] } : ByteArray) = bs' [47] := rfl
def numStr (q : Rat) : List Nat := (if q.num < 0 then [45] else []) ++ dec q.num.natAbs ++ (if q.den = 1 then [] else 47 :: dec q.den)
def NumOk (q : Rat) : Prop := (dec q.num.natAbs).length ≤ 4000 ∧ (q.den = 1 ∨ (dec q.den).length ≤ 4000)
instance (q : Rat) : Decidable (NumOk q) := by unfold NumOk; exact inferInstance
theorem text_spec2 {v : Value} {x d : List Nat} {H : SHeap} (hX : Us H 124 v x) (hT : Trim x) (hl : x.length ≤ 1000000) (hd : dec (val x) = d) : SW prog 78 [v] H (fun u H1 => Ext H H1 ∧ u = .string (bs' d)) := by
  subst hd
  exact text_spec hX hT hl
theorem rnum_spec {v : Value} {q : Rat} {N : Nat} {H : SHeap} (hv : RatQ H v q) (hs : SzQ N q) (hN : N ≤ 32000000) :
    SW prog 51 [v] H (fun u H1 => Ext H H1 ∧ u = if NumOk q then .tuple #[.string (bs' (numStr q)), .int .i64 0] else .tuple #[.string (bs' []), .int .i64 5]) := by
  refine SW.cps fun Q hQ => ?_
  apply into_num_Rat_Num (by simp)
  have fN := hs.num hN
  have fD := hs.den hN
  have hv0 := hv
  obtain ⟨s1, a1, n1, c1, s2, a2, n2, c2, rfl, h1, h2⟩ := hv.shape
  obtain ⟨l1, rfl, hU1, hT1, hv1⟩ := h1.us
  obtain ⟨l2, rfl, hU2, hT2, hv2⟩ := h2.us
  obtain ⟨d1, hd1⟩ : ∃ d, dec q.num.natAbs = d := ⟨_, rfl⟩
  obtain ⟨d2, hd2⟩ : ∃ d, dec q.den = d := ⟨_, rfl⟩
  simp [Z_num_Rat_Num]
  have hx0 : Ext H (H ++ [.dead]) := Ext.more H (by simp)
  refine SWt.mk (text_spec2 (d := d1) (hU1.ext hx0) hT1 (fN.length hT1 hv1) (by rw [hv1, hd1])) ?_
  rintro u H1 ⟨hx1, rfl⟩
  simp
  refine tx_lnS (l := d1) (by simp) (by rfl) ?_
  simp
  refine Brt.mkD (fun hc => ?_) (fun hc => ?_)
  · try simp
    simp [retOf]
    refine hQ _ _ ⟨hx0.tr hx1, ?_⟩
    rw [if_neg (by unfold NumOk; rw [hd1]; omega)]
    rfl
  try simp
  refine ZXt.join (by kernel_rfl) (fun F4 G4 H4 => H4 = H1 ∧ F4 4 = .string (bs' ((if q.num < 0 then [45] else []) ++ d1))) ?_ ?_
  · rintro K hK -
    simp
    refine Brt.mkD (fun hs => ?_) (fun hs => ?_)
    · simp [lit_minus, cat_bs (a := [45]) (b := d1) (by simp; omega)]
      refine hK _ _ _ ⟨rfl, ?_⟩
      simp [hs]
    · try simp
      refine hK _ _ _ ⟨rfl, ?_⟩
      simp [hs]
  · rintro F4 G4 H4 ⟨rfl, h4⟩
    simp at h4
    simp
    have hv1' := RatQ.ext hv0 (hx0.tr hx1)
    refine SWt.mk (integer_spec hv1' (by have := q.den_pos; omega)) ?_
    rintro u H2 ⟨hx2, rfl⟩
    simp
    refine Brt.mkD (fun hi => ?_) (fun hi => ?_)
    · have hi' : q.den = 1 := by omega
      try simp
      simp [retOf]
      refine hQ _ _ ⟨hx0.tr (hx1.tr hx2), ?_⟩
      rw [if_pos ⟨by rw [hd1]; omega, Or.inl hi'⟩]
      simp [numStr, hi', hd1, h4]
    have hi' : ¬ q.den = 1 := by omega
    try simp
    refine SWt.mk (text_spec2 (d := d2) (hU2.ext (hx0.tr (hx1.tr hx2))) hT2 (fD.length hT2 hv2) (by rw [hv2]; simpa using hd2)) ?_
    rintro u H3 ⟨hx3, rfl⟩
    simp
    refine tx_lnS (l := d2) (by simp) (by rfl) ?_
    simp
    refine Brt.mkD (fun hc2 => ?_) (fun hc2 => ?_)
    · try simp
      simp [retOf]
      refine hQ _ _ ⟨hx0.tr (hx1.tr (hx2.tr hx3)), ?_⟩
      rw [if_neg (by unfold NumOk; rw [hd1, hd2]; omega)]
      rfl
    · obtain ⟨sg, hsg⟩ : ∃ l, ((if q.num < 0 then [45] else []) ++ d1 : List Nat) = l := ⟨_, rfl⟩
      have hsl : sg.length ≤ 1 + d1.length := by rw [← hsg]; split <;> simp <;> omega
      rw [hsg] at h4
      simp [h4, lit_over, cat_bs (a := sg) (b := [47]) (by simp; omega), cat_bs (a := sg ++ [47]) (b := d2) (by simp; omega), retOf]
      refine hQ _ _ ⟨hx0.tr (hx1.tr (hx2.tr hx3)), ?_⟩
      rw [if_pos ⟨by rw [hd1]; omega, Or.inr (by rw [hd2]; omega)⟩]
      simp [numStr, hi', hd1, hd2, ← hsg]
def cutL (c : Nat) : List Nat → List Nat × Option (List Nat)
  | [] => ([], none)
  | x :: r => if x = c then ([], some r) else (x :: (cutL c r).1, (cutL c r).2)
theorem cutL_some {c : Nat} {l r : List Nat} (h : (cutL c l).2 = some r) : l = (cutL c l).1 ++ c :: r := by
  induction l with
  | nil => simp [cutL] at h
  | cons x l ih =>
    unfold cutL at h ⊢
    split at h
    · next hx => simp at h; subst h; simp [hx]
    · next hx => simp [hx]; exact ih h
theorem cutL_none {c : Nat} {l : List Nat} (h : (cutL c l).2 = none) : (cutL c l).1 = l := by
  induction l with
  | nil => simp [cutL]
  | cons x l ih =>
    unfold cutL at h ⊢
    split at h
    · simp at h
    · next hx => simp [hx]; exact ih h
theorem cutL_not {c : Nat} (l : List Nat) : c ∉ (cutL c l).1 := by
  induction l with
  | nil => simp [cutL]
  | cons x l ih =>
    unfold cutL
    split
    · simp
    · next hx => simp; exact ⟨fun h => hx h.symm, ih⟩
theorem bs_get! (l : List Nat) (i : Nat) (hi : i < l.length) : (bs' l)[i]! = UInt8.ofNat l[i] := by
  have h1 : i < (bs' l).size := by rw [bs_size]; exact hi
  rw [getElem!_pos (bs' l) i h1]
  simp [bs', ByteArray.getElem_eq_getElem_data]
theorem find_cut {c : Nat} {l : List Nat} (hl : Bytes l) (hc : c < 256) : ((List.range (bs' l).size).find? fun i => (bs' l)[i]! == UInt8.ofNat c) = (cutL c l).2.map fun _ => (cutL c l).1.length := by
  rw [bs_size]
  have key : ∀ i (hi : i < l.length), ((bs' l)[i]! == UInt8.ofNat c) = decide (l[i] = c) := by
    intro i hi
    rw [bs_get! l i hi]
    by_cases h : l[i] = c
    · rw [h]; simp
    · rw [decide_eq_false h, beq_eq_false_iff_ne]
      intro e
      exact h (ofNat_inj (hl _ (List.getElem_mem hi)) hc e)
  cases hr : (cutL c l).2 with
  | none =>
    rw [Option.map_none, List.find?_range_eq_none]
    intro i hi
    rw [key i hi]
    have h1 := cutL_none hr
    have h2 := cutL_not (c := c) l
    rw [h1] at h2
    have : l[i] ≠ c := fun e => h2 (e ▸ List.getElem_mem hi)
    simp [this]
  | some r =>
    rw [Option.map_some, List.find?_range_eq_some]
    have h1 := cutL_some hr
    have h2 := cutL_not (c := c) l
    generalize (cutL c l).1 = a at h1 h2
    subst h1
    refine ⟨?_, by simp, ?_⟩
    · rw [key _ (by simp)]; simp
    · intro j hj
      rw [key _ (by simp; omega)]
      rw [List.getElem_append_left hj]
      have : a[j] ≠ c := fun e => h2 (e ▸ List.getElem_mem hj)
      simp [this]
def idxL (c : Nat) (l : List Nat) : Int := match (cutL c l).2 with | some _ => ((cutL c l).1.length : Int) | none => -1
theorem indexByteString_spec {l : List Nat} {c : Nat} {H : SHeap} (hl : Bytes l) (hc : c < 256) :
    SW prog 133 [.string (bs' l), .int .u8 c] H (fun u H1 => H1 = H ∧ u = .int .i64 (idxL c l)) := by
  refine ⟨.int .i64 (idxL c l), H, .inr ⟨⟨by simp [flat1, flat], by simp [flat, flat1], ?_⟩, rfl⟩, rfl, rfl⟩
  have h0 : (prog.funcs[133]?).isSome = true := by kernel_rfl
  have h2 : ((prog.funcs[133]?).map fun fn => fn.name == "runtime.NumGoroutine") = some false := by kernel_rfl
  have h3 : ((prog.funcs[133]?).map fun fn => fn.body.isNone) = some true := by kernel_rfl
  have h4 : ((prog.funcs[133]?).map fun fn => Extern.findNext fn) = some none := by kernel_rfl
  have h5 : ((prog.funcs[133]?).map fun fn => Extern.find fn) = some (some Extern.BytealgIndexByte.indexByte) := by kernel_rfl
  obtain ⟨fn, hf⟩ := Option.isSome_iff_exists.1 h0
  rw [hf] at h2 h3 h4 h5
  simp only [Option.map_some, Option.some.injEq] at h2 h3 h4 h5
  have e1 : pureRun prog program = some prog := rfl
  have e2 : ∀ m, pureRun prog (mark m) = some () := fun m => rfl
  have e3 : pureRun prog (Extern.BytealgIndexByte.indexByte #[.string (bs' l), .int .u8 c]) = some (.int .i64 (idxL c l)) := by
    have e4 : (c : Int).toNat.toUInt8 = UInt8.ofNat c := by simp
    show pureRun prog ((pure (bs' l) : Sem ByteArray) >>= fun b => (pure (c : Int).toNat.toUInt8 : Sem UInt8) >>= fun c => match (List.range b.size).find? fun i => b[i]! == c with | some i => pure (goInt i) | none => pure (goInt (-1))) = _
    simp only [pureRun_bind, pureRun_pure, Option.bind_some, e4, find_cut hl hc]
    unfold idxL
    cases (cutL c l).2 <;> simp [pureRun_pure] <;> rfl
  have h2' : ¬ fn.name = "runtime.NumGoroutine" := by simpa using h2
  have h3' : fn.body = none := by simpa using h3
  simp [callFunc, pureRun_bind, pureRun_map, e1, hf, h2', h3', h4, h5, e2, e3, pureRun_pure]
section
variable {P : Program} {r : List XOp} {Q : Fr → SHeap → Prop} {F : Fr} {H : SHeap}
theorem tx_ixS {d t n : Nat} {x i : Operand} {l : List Nat} {kk : IntKind} {tk : Tok (ix d t x i :: r) Q} (hv : fev F x = .string (bs' l)) (hB : Bytes l) (hi : fev F i = .int kk n) (hn : n < l.length) (ht : strT P t = true) (K : XWt P r Q .mk (upd F d (.int .u8 (l[n]?.getD 0 : Nat))) H) : XWt P (ix d t x i :: r) Q tk F H := by
  have e : (((bs' l).data.getD ((n : Int).toNat) 0).toNat : Int) = ((l[n]?.getD 0 : Nat) : Int) := by rw [Int.toNat_natCast, bs_get l hB n hn]
  have hc : strT P t = true ∧ (0 : Int) ≤ (n : Int) ∧ (n : Int) < ((bs' l).size : Int) := ⟨ht, by omega, by rw [bs_size]; omega⟩
  rw [tx_ix, hv, hi, OnTt_t, OnIt_int]
  refine Chkt.mk hc ?_
  rw [e]
  exact K
end
theorem idx_one (c : Nat) : idxL c [c] = 0 := by simp [idxL, cutL]
theorem indexByte_spec {l : List Nat} {c : Nat} {H : SHeap} (hl : Bytes l) (hc : c < 256) :
    SW prog 128 [.string (bs' l), .int .u8 c] H (fun u H1 => H1 = H ∧ u = .int .i64 (idxL c l)) := by
  refine SW.cps fun Q hQ => ?_
  apply into_stringslite_IndexByte (by simp)
  simp [Z_stringslite_IndexByte]
  refine SWt.mk (indexByteString_spec hl hc) ?_
  rintro u H ⟨rfl, rfl⟩
  simp [retOf]
  exact hQ _ _ ⟨rfl, rfl⟩
theorem index_spec {l : List Nat} {c : Nat} {H : SHeap} (hl : Bytes l) (hc : c < 256) :
    SW prog 120 [.string (bs' l), .string (bs' [c])] H (fun u H1 => H1 = H ∧ u = .int .i64 (idxL c l)) := by
  refine SW.cps fun Q hQ => ?_
  apply into_stringslite_Index (by simp)
  simp [Z_stringslite_Index]
  refine tx_lnS (l := [c]) (by simp) (by rfl) ?_
  simp
  refine ZXt.join (by kernel_rfl) (fun F4 G4 H4 => H4 = H ∧ F4 16 = .bool (decide ([c] = l))) ?_ ?_
  · rintro K hK -
    simp
    refine hK _ _ _ ⟨rfl, ?_⟩
    simp [bs_beq (a := [c]) (b := l) (by intro x hx; simp at hx; omega) hl]
  · rintro F4 G4 H ⟨rfl, h16⟩
    simp at h16
    simp [h16]
    refine Brt.mkD (fun he => ?_) (fun he => ?_)
    · subst he
      try simp
      simp [retOf]
      exact hQ _ _ ⟨rfl, by rw [idx_one]⟩
    · try simp
      refine tx_ixS (n := 0) (kk := .i64) (l := [c]) (by simp) (by intro x hx; simp at hx; omega) (by simp) (by simp) (by rfl) ?_
      simp
      refine SWt.mk (indexByte_spec hl hc) ?_
      rintro u H ⟨rfl, rfl⟩
      simp [retOf]
      exact hQ _ _ ⟨rfl, rfl⟩
theorem sl_cut_spec {l : List Nat} {c : Nat} {H : SHeap} (hl : Bytes l) (hc : c < 256) (hlen : l.length < 4611686018427387904) :
    SW prog 114 [.string (bs' l), .string (bs' [c])] H (fun u H1 => H1 = H ∧ u = .tuple #[.string (bs' (cutL c l).1), .string (bs' ((cutL c l).2.getD [])), .bool (cutL c l).2.isSome]) := by
  refine SW.cps fun Q hQ => ?_
  apply into_stringslite_Cut (by simp)
  simp [Z_stringslite_Cut]
  refine SWt.mk (index_spec hl hc) ?_
  rintro u H ⟨rfl, rfl⟩
  cases hr : (cutL c l).2 with
  | none =>
    have e : idxL c l = -1 := by simp [idxL, hr]
    simp [e, retOf]
    refine hQ _ _ ⟨rfl, ?_⟩
    rw [cutL_none hr, hr]
    rfl
  | some q =>
    have h1 := cutL_some hr
    have e : idxL c l = ((cutL c l).1.length : Int) := by simp [idxL, hr]
    obtain ⟨a, ha⟩ : ∃ a, (cutL c l).1 = a := ⟨_, rfl⟩
    rw [ha] at h1 e
    simp [e]
    refine tx_slsb (l := 0) (h := a.length) (s := bs' l) (by simp) (by rfl) (by simp [loOf]) (by simp [hiOf]) (by omega) (by rw [bs_size, h1]; simp) ?_
    simp
    refine tx_lnS (l := [c]) (by simp) (by rfl) ?_
    have hll : l.length = a.length + 1 + q.length := by rw [h1]; simp; omega
    have ew : IntKind.i64.wrap ((a.length : Int) + 1) = ((a.length + 1 : Nat) : Int) := by rw [w64 (by omega) (by omega)]; omega
    simp [ew]
    refine tx_slsb (l := a.length + 1) (h := l.length) (s := bs' l) (by simp) (by rfl) (by simp [loOf]; omega) (by simp [hiOf, bs_size]) (by omega) (by rw [bs_size]; omega) ?_
    simp [retOf]
    refine hQ _ _ ⟨rfl, ?_⟩
    rw [bs_extract, bs_extract, hr, ha]
    have e1 : ((List.drop 0 l).take (a.length - 0)) = a := by rw [h1]; simp
    have e2 : ((List.drop (a.length + 1) l).take (l.length - (a.length + 1))) = q := by
      rw [List.take_of_length_le (by simp)]
      rw [h1, show a ++ c :: q = (a ++ [c]) ++ q from by simp, List.drop_left' (by simp)]
    rw [e1, e2]
    rfl
theorem cut_spec {l : List Nat} {c : Nat} {H : SHeap} (hl : Bytes l) (hc : c < 256) (hlen : l.length < 4611686018427387904) :
    SW prog 98 [.string (bs' l), .string (bs' [c])] H (fun u H1 => H1 = H ∧ u = .tuple #[.string (bs' (cutL c l).1), .string (bs' ((cutL c l).2.getD [])), .bool (cutL c l).2.isSome]) := by
  refine SW.cps fun Q hQ => ?_
  apply into_strings_Cut (by simp)
  simp [Z_strings_Cut]
  refine SWt.mk (sl_cut_spec hl hc hlen) ?_
  rintro u H ⟨rfl, rfl⟩
  simp [retOf]
  exact hQ _ _ ⟨rfl, rfl⟩
theorem hasPrefix_spec {l : List Nat} {c : Nat} {H : SHeap} (hl : Bytes l) (hc : c < 256) :
    SW prog 121 [.string (bs' l), .string (bs' [c])] H (fun u H1 => H1 = H ∧ u = .bool (decide (l.head? = some c))) := by
  refine SW.cps fun Q hQ => ?_
  apply into_stringslite_HasPrefix (by simp)
  simp [Z_stringslite_HasPrefix]
  refine ZXt.join (by kernel_rfl) (fun F4 G4 H4 => H4 = H ∧ F4 4 = .bool (decide (l.head? = some c))) ?_ ?_
  · rintro K hK -
    simp
    refine tx_lnS (l := l) (by simp) (by rfl) ?_
    simp
    refine tx_lnS (l := [c]) (by simp) (by rfl) ?_
    cases l with
    | nil =>
      simp
      refine hK _ _ _ ⟨rfl, by simp⟩
    | cons x r =>
      have e : ((1 : Int) ≤ ((r.length : Int) + 1)) = True := by simp; omega
      simp [e]
      refine tx_lnS (l := [c]) (by simp) (by rfl) ?_
      simp
      refine tx_slsb (l := 0) (h := 1) (s := bs' (x :: r)) (by simp) (by rfl) (by simp [loOf]) (by simp [hiOf]) (by omega) (by rw [bs_size]; simp) ?_
      rw [bs_extract]
      simp
      refine hK _ _ _ ⟨rfl, ?_⟩
      have hx : x < 256 := hl x (by simp)
      simp [bs_beq (a := [x]) (b := [c]) (by intro y hy; simp at hy; omega) (by intro y hy; simp at hy; omega)]
  · rintro F4 G4 H ⟨rfl, h4⟩
    simp at h4
    simp [h4, retOf]
    exact hQ _ _ ⟨rfl, rfl⟩
def tailL (c : Nat) (l : List Nat) : List Nat := if l.head? = some c then l.tail else l
theorem sl_cutPrefix_spec {l : List Nat} {c : Nat} {H : SHeap} (hl : Bytes l) (hc : c < 256) :
    SW prog 115 [.string (bs' l), .string (bs' [c])] H (fun u H1 => H1 = H ∧ u = .tuple #[.string (bs' (tailL c l)), .bool (decide (l.head? = some c))]) := by
  refine SW.cps fun Q hQ => ?_
  apply into_stringslite_CutPrefix (by simp)
  simp [Z_stringslite_CutPrefix]
  refine SWt.mk (hasPrefix_spec hl hc) ?_
  rintro u H ⟨rfl, rfl⟩
  by_cases h : l.head? = some c
  · simp [h]
    refine tx_lnS (l := [c]) (by simp) (by rfl) ?_
    simp
    refine tx_slsb (l := 1) (h := l.length) (s := bs' l) (by simp) (by rfl) (by simp [loOf]) (by simp [hiOf, bs_size]) ?_ (by rw [bs_size]; omega) ?_
    · cases l with
      | nil => simp at h
      | cons x r => simp
    rw [bs_extract]
    simp [retOf]
    refine hQ _ _ ⟨rfl, ?_⟩
    unfold tailL
    rw [if_pos h, List.take_of_length_le (by simp)]
    simp [h]
  · simp [h, retOf]
    refine hQ _ _ ⟨rfl, ?_⟩
    unfold tailL
    rw [if_neg h]
    simp [h]
theorem cutPrefix_spec {l : List Nat} {c : Nat} {H : SHeap} (hl : Bytes l) (hc : c < 256) :
    SW prog 99 [.string (bs' l), .string (bs' [c])] H (fun u H1 => H1 = H ∧ u = .tuple #[.string (bs' (tailL c l)), .bool (decide (l.head? = some c))]) := by
  refine SW.cps fun Q hQ => ?_
  apply into_strings_CutPrefix (by simp)
  simp [Z_strings_CutPrefix]
  refine SWt.mk (sl_cutPrefix_spec hl hc) ?_
  rintro u H ⟨rfl, rfl⟩
  simp [retOf]
  exact hQ _ _ ⟨rfl, rfl⟩
def Digit (c : Nat) : Prop := 48 ≤ c ∧ c ≤ 57
instance (c : Nat) : Decidable (Digit c) := by unfold Digit; exact inferInstance
def DigsOk (l : List Nat) : Prop := (∀ c ∈ l, Digit c) ∧ l ≠ [] ∧ ¬ (l.head? = some 48 ∧ 1 < l.length) ∧ l.length ≤ 4000
instance (l : List Nat) : Decidable (DigsOk l) := by unfold DigsOk; exact inferInstance
def dval (l : List Nat) : Nat := l.foldl (fun a c => 10 * a + (c - 48)) 0
theorem dval_from (l : List Nat) (a : Nat) : l.foldl (fun a c => 10 * a + (c - 48)) a = a * 10 ^ l.length + dval l := by
  induction l generalizing a with
  | nil => simp [dval]
  | cons c l ih =>
    unfold dval
    simp only [List.foldl_cons, List.length_cons]
    rw [ih, ih (10 * 0 + (c - 48)), Nat.pow_succ]
    rw [show (10 * a + (c - 48)) * 10 ^ l.length = a * (10 ^ l.length * 10) + (c - 48) * 10 ^ l.length from by rw [Nat.add_mul]; congr 1; rw [Nat.mul_comm 10 a, Nat.mul_assoc, Nat.mul_comm 10]]
    simp; omega
theorem dval_append (a b : List Nat) : dval (a ++ b) = dval a * 10 ^ b.length + dval b := by
  unfold dval
  rw [List.foldl_append]
  exact dval_from b _
theorem dval_cons (c : Nat) (r : List Nat) : dval (c :: r) = (c - 48) * 10 ^ r.length + dval r := by
  conv => lhs; unfold dval
  rw [List.foldl_cons, dval_from]
  simp
theorem dval_one (c : Nat) : dval [c] = c - 48 := by simp [dval]
theorem dval_lt {l : List Nat} (h : ∀ c ∈ l, Digit c) : dval l < 10 ^ l.length := by
  induction l with
  | nil => simp [dval]
  | cons c r ih =>
    have h1 := ih fun x hx => h x (by simp [hx])
    have h2 := h c (by simp)
    unfold Digit at h2
    rw [dval_cons, List.length_cons, Nat.pow_succ]
    have h3 : (c - 48) * 10 ^ r.length ≤ 9 * 10 ^ r.length := Nat.mul_le_mul_right _ (by omega)
    omega
theorem dval_take {l : List Nat} {i : Nat} (hi : i < l.length) : dval (l.take (i + 1)) = dval (l.take i) * 10 + (l[i]?.getD 0 - 48) := by
  rw [List.take_succ_eq_append_getElem hi, dval_append, dval_one, gtE hi]
  simp
theorem nread_spec {l : List Nat} {H : SHeap} (hl : Bytes l) (hlen : l.length < 4611686018427387904) :
    SW prog 100 [.string (bs' l)] H (fun u H1 => Ext H H1 ∧ if DigsOk l then ∃ v x, u = .tuple #[v, .bool true] ∧ Us H1 124 v x ∧ Trim x ∧ val x = dval l else u = .tuple #[.slice none 0 0, .bool false]) := by
  refine SW.cps fun Q hQ => ?_
  apply into_num_read (by simp)
  simp [Z_num_read]
  refine tx_lnS (l := l) (by simp) (by rfl) ?_
  simp
  refine LoopZt.range (by kernel_rfl) l.length (by omega) (by simp) (by rfl) (by simp) (by decide) (by decide) (fun i F2 G2 H2 => H2 = H ∧ ∀ c ∈ l.take i, Digit c) ?_ ?_ ?_
  · exact ⟨rfl, by simp⟩
  · rintro i F1 G1 H1 hi hF ⟨rfl, hd⟩ K hK
    simp at hF
    simp [hF]
    refine ZXt.join (by kernel_rfl) (fun F4 G4 H4 => H4 = H1 ∧ F4 24 = .bool (decide (¬ Digit (l[i]?.getD 0)))) ?_ ?_
    · rintro K2 hK2 -
      obtain ⟨c, hc⟩ : ∃ c, l[i]?.getD 0 = c := ⟨_, rfl⟩
      simp
      refine tx_ixS (n := i) (kk := .i64) (l := l) (by simp) hl (by simp) hi (by rfl) ?_
      rw [hc]
      rcases Nat.lt_or_ge c 48 with h1 | h1
      · have e1 : ((c : Int) < 48) = True := by simp; omega
        simp [e1]
        refine hK2 _ _ _ ⟨rfl, ?_⟩
        simp [Digit]; omega
      · have e1 : ((c : Int) < 48) = False := by simp; omega
        simp [e1]
        refine tx_ixS (n := i) (kk := .i64) (l := l) (by simp) hl (by simp) hi (by rfl) ?_
        rw [hc]
        rcases Nat.lt_or_ge 57 c with h2 | h2
        · have e2 : ((57 : Int) < c) = True := by simp; omega
          simp [e2]
          refine hK2 _ _ _ ⟨rfl, ?_⟩
          simp [Digit]; omega
        · have e2 : ((57 : Int) < c) = False := by simp; omega
          simp [e2]
          refine hK2 _ _ _ ⟨rfl, ?_⟩
          simp [Digit]; omega
    · rintro F4 G4 H4 ⟨rfl, h24⟩
      simp at h24
      simp [h24]
      refine Brt.mkD (fun hg => ?_) (fun hg => ?_)
      · refine hK _ _ _ (by simp [hF]) ⟨rfl, ?_⟩
        intro c hc
        rw [List.take_succ_eq_append_getElem hi] at hc
        rcases List.mem_append.1 hc with hc | hc
        · exact hd c hc
        · simp at hc
          subst hc
          rw [gtE hi] at hg
          exact hg
      · simp [retOf]
        refine hQ _ _ ⟨Ext.refl _, ?_⟩
        rw [if_neg ?_]
        rintro ⟨h1, -⟩
        apply hg
        rw [gtE hi]
        exact h1 _ (List.getElem_mem hi)
  · rintro F1 G1 H1 hF ⟨rfl, hd⟩
    rw [List.take_length] at hd
    simp
    refine ZXt.join (by kernel_rfl) (fun F4 G4 H4 => H4 = H1 ∧ ∃ b : Bool, F4 42 = .bool b ∧ (b = false ↔ (l ≠ [] ∧ ¬ (l.head? = some 48 ∧ 1 < l.length) ∧ l.length ≤ 4000))) ?_ ?_
    · rintro K2 hK2 -
      cases l with
      | nil =>
        have e0 : (bs' []).toList.isEmpty = true := by simp [bs_toList]
        simp [e0]
        refine hK2 _ _ _ ⟨rfl, true, by simp, by simp⟩
      | cons c r =>
        have e0 : (bs' (c :: r)).toList.isEmpty = false := by simp [bs_toList]
        simp [e0]
        refine tx_ixS (n := 0) (kk := .i64) (l := c :: r) (by simp) hl (by simp) (by simp) (by rfl) ?_
        by_cases h48 : c = 48
        · subst h48
          simp
          refine tx_lnS (l := 48 :: r) (by simp) (by rfl) ?_
          rcases Nat.eq_zero_or_pos r.length with hr | hr
          · simp [hr]
            refine tx_lnS (l := 48 :: r) (by simp) (by rfl) ?_
            simp [hr]
            refine hK2 _ _ _ ⟨rfl, false, by simp, by simp [hr]⟩
          · have e1 : ((1 : Int) < ((r.length : Int) + 1)) = True := by simp; omega
            simp [e1]
            refine hK2 _ _ _ ⟨rfl, true, by simp, Iff.intro (fun h => by cases h) (fun h => absurd ⟨by simp, by simp; omega⟩ h.2.1)⟩
        · have e1 : ((c : Int) = 48) = False := by simp; omega
          simp [e1]
          refine tx_lnS (l := c :: r) (by simp) (by rfl) ?_
          simp
          refine hK2 _ _ _ ⟨rfl, decide (4000 < r.length + 1), by simp; omega, ?_⟩
          simp [h48]
    · rintro F4 G4 H4 ⟨rfl, b, h42, hb⟩
      simp at h42
      simp [h42]
      refine Brt.mk (fun hc => ?_) (fun hc => ?_)
      · simp [retOf]
        refine hQ _ _ ⟨Ext.refl _, ?_⟩
        rw [if_neg ?_]
        rintro ⟨h1, h2⟩
        have := hb.2 h2
        rw [this] at hc
        cases hc
      · have hok : DigsOk l := ⟨hd, hb.1 hc⟩
        simp only [hok, if_true] at hQ
        simp
        have hl4 : l.length ≤ 4000 := hok.2.2.2
        refine LoopZt.mk (by kernel_rfl) (fun n F1 G1 H1 => Ext H4 H1 ∧ ∃ (p s x : List Nat) (v : Value), n = s.length ∧ l = p ++ s ∧ F1 0 = .string (bs' s) ∧ F1 5 = v ∧ Us H1 124 v x ∧ Trim x ∧ val x = dval p) l.length ?_ ?_
        · exact ⟨Ext.refl _, [], l, [], _, rfl, rfl, by simp, rfl, ⟨Sl.nil _ _ _, by simp⟩, Trim.nil, by simp [dval, val]⟩
        · rintro n F5 G5 H5 ⟨hx5, p, s, x, v, rfl, hls, h0, h5, hU, hT, hv⟩ K2 hK2
          simp at h0 h5
          have hsB : Bytes s := fun c hc => hl c (by rw [hls]; simp [hc])
          have hpD : ∀ c ∈ p, Digit c := fun c hc => hd c (by rw [hls]; simp [hc])
          have hsD : ∀ c ∈ s, Digit c := fun c hc => hd c (by rw [hls]; simp [hc])
          have hpl : p.length + s.length ≤ 4000 := by rw [hls] at hl4; simpa using hl4
          cases hs : s with
          | nil =>
            have e0 : (bs' []).toList.isEmpty = true := by simp [bs_toList]
            subst hs
            simp [h0, e0]
            rw [List.append_nil] at hls
            exact hQ _ _ ⟨hx5, v, x, by simp [retOf, h5], hU, hT, by rw [hv, hls]⟩
          | cons c r =>
            have e0 : (bs' s).toList.isEmpty = false := by simp [bs_toList, hs]
            have hsp : 0 < s.length := by rw [hs]; simp
            obtain ⟨m0, hm0⟩ : ∃ m0, s.length - 1 = m0 := ⟨_, rfl⟩
            obtain ⟨m1, hm1⟩ : ∃ m1, m0 % 9 = m1 := ⟨_, rfl⟩
            obtain ⟨n, hn⟩ : ∃ n, m1 + 1 = n := ⟨_, rfl⟩
            have hn9 : n ≤ 9 ∧ n ≤ s.length ∧ 0 < n := by omega
            have eA : IntKind.i64.wrap ((s.length : Int) - 1) = (m0 : Int) := by rw [w64 (by omega) (by omega)]; omega
            have eB : ((m0 : Int)).tmod 9 = (m1 : Int) := by rw [← hm1]; rfl
            have eC : IntKind.i64.wrap ((m1 : Int) + 1) = (n : Int) := by rw [w64 (by omega) (by omega)]; omega
            have eD : IntKind.i64.wrap (m1 : Int) = (m1 : Int) := by rw [w64 (by omega) (by omega)]
            simp [h0, e0]
            refine tx_lnS (l := s) (by simp) (by rfl) ?_
            simp [eA, eB, eC, eD]
            refine LoopZt.range (by kernel_rfl) n (by omega) (by simp) (by rfl) (by simp) (by decide) (by decide) (fun i F6 G6 H6 => H6 = H5 ∧ ∃ a e : Nat, F6 7 = .int .u32 a ∧ F6 8 = .int .u32 e ∧ a = dval (s.take i) ∧ e = 10 ^ i) ?_ ?_ ?_
            · refine ⟨rfl, 0, 1, by simp, by simp, by simp [dval], by simp⟩
            · rintro i F6 G6 H6 hi hF6 ⟨rfl, a, e, h7, h8, ha, he⟩ K3 hK3
              simp at hF6 h7 h8
              have his : i < s.length := by omega
              obtain ⟨cd, hcd⟩ : ∃ cd, s[i]?.getD 0 = cd := ⟨_, rfl⟩
              have hcD : Digit cd := hsD cd (by rw [← hcd, gtE his]; exact List.getElem_mem his)
              unfold Digit at hcD
              have hal : a < 10 ^ i := by
                have := dval_lt (l := s.take i) fun c hc => hsD c (List.mem_of_mem_take hc)
                rw [← ha, List.length_take, Nat.min_eq_left (by omega)] at this
                exact this
              have hi8 : 10 ^ i ≤ 10 ^ 8 := Nat.pow_le_pow_right (by decide) (by omega)
              rw [← he] at hal hi8
              obtain ⟨m, hm⟩ : ∃ m, 10 * a = m := ⟨_, rfl⟩
              obtain ⟨d, hd'⟩ : ∃ d, cd - 48 = d := ⟨_, rfl⟩
              obtain ⟨md, hmd⟩ : ∃ md, m + d = md := ⟨_, rfl⟩
              obtain ⟨e', he'⟩ : ∃ e', 10 * e = e' := ⟨_, rfl⟩
              have f1 : IntKind.u32.wrap (10 * (a : Int)) = (m : Int) := by rw [wu32 (by omega) (by omega)]; omega
              have f2 : IntKind.u8.wrap ((cd : Int) - 48) = (d : Int) := by rw [wu8 (by omega) (by omega)]; omega
              have f3 : IntKind.u32.wrap (d : Int) = (d : Int) := wu32 (by omega) (by omega)
              have f4 : IntKind.u32.wrap ((m : Int) + d) = (md : Int) := by rw [wu32 (by omega) (by omega)]; omega
              have f5 : IntKind.u32.wrap (10 * (e : Int)) = (e' : Int) := by rw [wu32 (by omega) (by omega)]; omega
              simp [hF6, h7, h8, h0, f1, f5]
              refine tx_ixS (n := i) (kk := .i64) (l := s) (by simp [h0]) hsB (by simp) his (by rfl) ?_
              rw [hcd]
              simp [f2, f3, f4, f5, h8]
              refine hK3 _ _ _ (by simp [hF6]) ⟨rfl, md, e', by simp, by simp, ?_, ?_⟩
              · rw [dval_take his, hcd, ← ha]; omega
              · rw [Nat.pow_succ, ← he]; omega
            · rintro F6 G6 H6 hF6 ⟨rfl, a, e, h7, h8, ha, he⟩
              simp at h7 h8
              simp [h7, h8, h5]
              have hel : e ≤ 10 ^ 9 := by rw [he]; exact Nat.pow_le_pow_right (by decide) (by omega)
              have hal : a < 10 ^ n := by
                have := dval_lt (l := s.take n) fun c hc => hsD c (List.mem_of_mem_take hc)
                rw [← ha, List.length_take, Nat.min_eq_left (by omega)] at this
                exact this
              rw [← he] at hal
              have hx6 : Ext H6 (H6 ++ [.own 124 false [.int .u32 (e : Int)]]) := Ext.more H6 (by simp)
              have hUe : Us (H6 ++ [.own 124 false [.int .u32 (e : Int)]]) 124 (.slice (some ⟨H6.length, 0, none⟩) 1 1) [e] := by
                simpa using Us.fresh H6 124 [e] 1 1 (by omega) rfl (by intro y hy; simp at hy; omega) false
              refine tx_bs (e := 124) (sz := 1) (z := .int .u32 0) (out := [.int .u32 e]) (by simp) (by simp) (by simp) (by rfl) (by rfl) (by omega) (by omega) (by omega) ?_ (by simp) ?_
              · simp [fillP, made_u32]
              have hxl : x.length ≤ 4000 := by
                refine hT.length_le ?_
                rw [hv]
                refine Nat.lt_of_lt_of_le (dval_lt hpD) (Nat.le_trans (pwR 10 p.length 4000 (by decide) (show p.length ≤ 4000 by omega)) (pwL 10 4294967296 4000 (by decide)))
              simp [h5]
              refine SWt.mk (times_spec (hU.ext hx6) hUe (by omega) (by simp)) ?_
              rintro w H7 ⟨hx7, xe, hUx, hTx, hvx⟩
              simp [h7]
              have hx8 : Ext H7 (H7 ++ [.own 124 false [.int .u32 (a : Int)]]) := Ext.more H7 (by simp)
              have hUa : Us (H7 ++ [.own 124 false [.int .u32 (a : Int)]]) 124 (.slice (some ⟨H7.length, 0, none⟩) 1 1) [a] := by
                simpa using Us.fresh H7 124 [a] 1 1 (by omega) rfl (by intro y hy; simp at hy; omega) false
              refine tx_bs (e := 124) (sz := 1) (z := .int .u32 0) (out := [.int .u32 a]) (by simp) (by simp) (by simp) (by rfl) (by rfl) (by omega) (by omega) (by omega) ?_ (by simp) ?_
              · simp [fillP, made_u32]
              simp
              refine SWt.mk (trim_spec hUa (by simp)) ?_
              rintro w2 H8 ⟨rfl, xa, hUxa, hTxa, hvxa, hlxa⟩
              simp
              have hxel : xe.length ≤ 5000 := by
                refine hTx.length_le ?_
                rw [hvx, hv]
                have h11 : val [e] = e := by simp [val]
                rw [h11]
                exact pwD 5000 (dval_lt hpD) hel (by omega)
              refine SWt.mk (plus_spec (hUx.ext hx8) hUxa (by omega) (by simp at hlxa; omega)) ?_
              rintro w3 H9 ⟨hx9, x', hUx', hTx', hvx'⟩
              simp [h0]
              refine tx_slsb (l := n) (h := s.length) (s := bs' s) (by simp [h0]) (by rfl) (by simp [loOf]) (by simp [hiOf, bs_size]) (by omega) (by rw [bs_size]; omega) ?_
              rw [bs_extract]
              simp
              have hd1 : (s.drop n).take (s.length - n) = s.drop n := List.take_of_length_le (by simp)
              refine hK2 (s.drop n).length _ _ _ (by simp; omega) ⟨hx5.tr (hx6.tr (hx7.tr (hx8.tr hx9))), p ++ s.take n, s.drop n, x', w3, rfl, by simp [hls], by simp [hd1], by simp, hUx', hTx', ?_⟩
              rw [hvx', hvx, hv, hvxa, dval_append, List.length_take, Nat.min_eq_left (by omega), ← he, ← ha]
              simp [val]
@[simp] theorem d_bs (d t n : Nat) (ps : List (Nat × Operand)) : (bs d t n ps).d = some d := rfl
def overL (l : List Nat) : List Nat := (cutL 47 l).1
def underL (l : List Nat) : Option (List Nat) := (cutL 47 l).2
def digsL (l : List Nat) : List Nat := tailL 45 (overL l)
def minusL (l : List Nat) : Bool := decide ((overL l).head? = some 45)
def DenOk (l : List Nat) : Prop := ∀ u, underL l = some u → DigsOk u ∧ 1 < dval u
def denL (l : List Nat) : Nat := match underL l with | some u => dval u | none => 1
def numL (l : List Nat) : Int := if minusL l = true then -(dval (digsL l) : Int) else dval (digsL l)
def ParseOk (l : List Nat) : Prop := DigsOk (digsL l) ∧ DenOk l ∧ ¬ (minusL l = true ∧ dval (digsL l) = 0) ∧ (underL l = none ∨ Int.gcd (numL l) (denL l) = 1)
theorem Bytes.tail {c : Nat} {l : List Nat} (h : Bytes l) : Bytes (tailL c l) := by
  unfold tailL
  split
  · exact fun x hx => h x (List.mem_of_mem_tail hx)
  · exact h
theorem cutL_mem {c : Nat} {l : List Nat} : (∀ x ∈ (cutL c l).1, x ∈ l) ∧ ∀ u, (cutL c l).2 = some u → ∀ x ∈ u, x ∈ l := by
  cases hr : (cutL c l).2 with
  | none => exact ⟨fun x hx => by rw [cutL_none hr] at hx; exact hx, fun u hu => by cases hu⟩
  | some r =>
    have h1 := cutL_some hr
    refine ⟨fun x hx => by rw [h1]; simp [hx], fun u hu x hx => ?_⟩
    cases hu
    rw [h1]; simp [hx]
theorem cutL_len {c : Nat} {l : List Nat} : (cutL c l).1.length ≤ l.length ∧ ∀ u, (cutL c l).2 = some u → u.length ≤ l.length := by
  cases hr : (cutL c l).2 with
  | none => exact ⟨by rw [cutL_none hr]; omega, fun u hu => by cases hu⟩
  | some r =>
    have h1 := congrArg List.length (cutL_some hr)
    simp at h1
    exact ⟨by omega, fun u hu => by cases hu; omega⟩
theorem nread_spec2 {l : List Nat} {H : SHeap} (hl : Bytes l) (hlen : l.length < 4611686018427387904) :
    SW prog 100 [.string (bs' l)] H (fun u H1 => Ext H H1 ∧ ∃ v b x, u = .tuple #[v, .bool b] ∧ Us H1 124 v x ∧ Trim x ∧ x.length ≤ 4000 ∧ (b = true ↔ DigsOk l) ∧ (b = true → val x = dval l)) :=
  (nread_spec hl hlen).mono fun u H1 ⟨hx, hu⟩ => by
    by_cases hd : DigsOk l
    · rw [if_pos hd] at hu
      obtain ⟨v, x, rfl, hU, hT, hv⟩ := hu
      refine ⟨hx, v, true, x, rfl, hU, hT, ?_, by simp [hd], fun _ => hv⟩
      refine hT.length_le ?_
      rw [hv]
      exact Nat.lt_of_lt_of_le (dval_lt hd.1) (Nat.le_trans (pwR 10 _ 4000 (by decide) hd.2.2.2) (pwL 10 4294967296 4000 (by decide)))
    · rw [if_neg hd] at hu
      subst hu
      exact ⟨hx, _, false, [], rfl, ⟨Sl.nil _ _ _, by simp⟩, Trim.nil, by simp, by simp [hd], by simp⟩
theorem parse_spec {l : List Nat} {H : SHeap} (hl : Bytes l) (hlen : l.length < 4611686018427387904) :
    SW prog 74 [.string (bs' l)] H (fun u H1 => Ext H H1 ∧ ∃ v, (ParseOk l ∧ u = .tuple #[v, .bool true] ∧ RatQ H1 v (Rat.divInt (numL l) (denL l)) ∨ ¬ ParseOk l ∧ u = .tuple #[v, .bool false]) ∧ ∃ s1 a1 n1 c1 s2 a2 n2 c2, v = .agg #[.bool s1, .slice a1 n1 c1, .bool s2, .slice a2 n2 c2]) := by
  refine SW.cps fun Q hQ => ?_
  apply into_num_Parse (by simp)
  have hOB : Bytes (overL l) := fun x hx => hl x (cutL_mem.1 x hx)
  have hOl : (overL l).length ≤ l.length := cutL_len.1
  simp [Z_num_Parse, lit_over, lit_minus]
  refine SWt.mk (cut_spec hl (by decide) hlen) ?_
  rintro u H1 ⟨rfl, rfl⟩
  simp
  refine SWt.mk (cutPrefix_spec hOB (by decide)) ?_
  rintro u H1 ⟨rfl, rfl⟩
  simp
  refine SWt.mk (nread_spec2 (l := digsL l) (hOB.tail) ?_) ?_
  · unfold digsL tailL; split
    · rw [List.length_tail]; omega
    · omega
  rintro u H1 ⟨hx1, vn, bn, xn, rfl, hUn, hTn, hln, hbn, hvn⟩
  simp
  have hU1 : Us (H1 ++ [.own 124 false [.int .u32 1]]) 124 (.slice (some ⟨H1.length, 0, none⟩) 1 1) [1] := by
    simpa using Us.fresh H1 124 [1] 1 1 (by omega) rfl (by simp) false
  refine tx_bs (e := 124) (sz := 1) (z := .int .u32 0) (out := [.int .u32 1]) (by simp) (by simp) (by simp) (by rfl) (by rfl) (by omega) (by omega) (by omega) ?_ (by simp) ?_
  · simp [fillP, made_u32]
  simp
  have hx2 : Ext H1 (H1 ++ [.own 124 false [.int .u32 1]]) := Ext.more H1 (by simp)
  refine ZXt.join (by kernel_rfl) (fun F4 G4 H4 => Ext (H1 ++ [.own 124 false [.int .u32 1]]) H4 ∧ ∃ (w : Value) (y : List Nat) (b : Bool), F4 11 = w ∧ F4 12 = .bool b ∧ Us H4 124 w y ∧ Trim y ∧ y.length ≤ 4000 ∧ (b = true ↔ DenOk l) ∧ (b = true → val y = denL l)) ?_ ?_
  · rintro K hK -
    cases hr : underL l with
    | none =>
      have hr' : (cutL 47 l).2 = none := hr
      simp [hr']
      refine hK _ _ _ ⟨Ext.refl _, .slice (some ⟨H1.length, 0, none⟩) 1 1, [1], true, rfl, rfl, hU1, by simp [Trim], by simp, ?_, ?_⟩
      · simp only [true_iff]; intro u hu; rw [hr] at hu; cases hu
      · intro _; simp [denL, hr, val]
    | some q =>
      have hr' : (cutL 47 l).2 = some q := hr
      have hqB : Bytes q := fun x hx => hl x (cutL_mem.2 q hr' x hx)
      have hql := cutL_len.2 q hr'
      simp [hr']
      refine SWt.mk (nread_spec2 (l := q) hqB (by omega)) ?_
      rintro u H2 ⟨hx3, vd, bd', xd, rfl, hUd, hTd, hld, hbd, hvd⟩
      cases bd' with
      | false =>
        have hnd : ¬ DigsOk q := fun h => by have := hbd.2 h; cases this
        simp
        refine hK _ _ _ ⟨hx3, vd, xd, false, by simp, by simp, hUd, hTd, hld, ?_, by simp⟩
        simp only [Bool.false_eq_true, false_iff]
        intro h
        exact hnd (h q hr).1
      | true =>
        have hdd : DigsOk q := hbd.1 rfl
        have hv := hvd rfl
        simp
        have hx5 : Ext H2 (H2 ++ [.own 124 false [.int .u32 1]]) := Ext.more H2 (by simp)
        have hU2 : Us (H2 ++ [.own 124 false [.int .u32 1]]) 124 (.slice (some ⟨H2.length, 0, none⟩) 1 1) [1] := by
          simpa using Us.fresh H2 124 [1] 1 1 (by omega) rfl (by simp) false
        refine tx_bs (e := 124) (sz := 1) (z := .int .u32 0) (out := [.int .u32 1]) (by simp) (by simp) (by simp) (by rfl) (by rfl) (by omega) (by omega) (by omega) ?_ (by simp) ?_
        · simp [fillP, made_u32]
        simp
        refine SWt.mk (compare_spec (hUd.ext hx5) hU2 hTd (by simp [Trim]) (by omega) (by simp)) ?_
        rintro u H6 ⟨rfl, rfl⟩
        have e1 : val [1] = 1 := by simp [val]
        rw [e1, hv]
        obtain ⟨c, hc⟩ : ∃ c : Int, (if dval q < 1 then -1 else if 1 < dval q then 1 else 0 : Int) = c := ⟨_, rfl⟩
        rw [hc]
        simp
        refine hK _ _ _ ⟨hx3.tr hx5, vd, xd, decide (0 < c), by simp, by simp, hUd.ext hx5, hTd, hld, ?_, ?_⟩
        · rw [decide_eq_true_iff]
          have h0 : 0 < c ↔ 1 < dval q := by rw [← hc]; split <;> (try split) <;> omega
          rw [h0]
          exact ⟨fun h u hu => by rw [hr] at hu; cases hu; exact ⟨hdd, h⟩, fun h => (h q hr).2⟩
        · intro _; rw [hv]; simp [denL, hr]
  · rintro F4 G4 H4 ⟨hx4, w, y, b, h11, h12, hUy, hTy, hly, hb, hvy⟩
    simp at h11 h12
    refine ZXt.join (by kernel_rfl) (fun F5 G5 H5 => H5 = H4 ∧ ∃ g : Bool, F5 57 = .bool g ∧ (g = false ↔ (bn = true ∧ b = true ∧ ¬ (minusL l = true ∧ xn.length = 0)))) ?_ ?_
    · rintro K hK -
      cases bn with
      | false =>
        simp
        refine hK _ _ _ ⟨rfl, true, by simp, by simp⟩
      | true =>
        cases b with
        | false =>
          simp [h12]
          refine hK _ _ _ ⟨rfl, true, by simp, by simp⟩
        | true =>
          have hUn4 := hUn.ext (hx2.tr hx4)
          by_cases hm : (overL l).head? = some 45
          · have hm' : (cutL 47 l).1.head? = some 45 := hm
            simp [h12, hm']
            refine tx_lnR (by simpa using hUn4.row) (by simp) ?_
            simp
            refine hK _ _ _ ⟨rfl, decide (xn.length = 0), by simp, by simp [minusL, hm]⟩
          · have hm' : ¬ (cutL 47 l).1.head? = some 45 := hm
            simp [h12, hm']
            refine hK _ _ _ ⟨rfl, false, by simp, by simp [minusL, hm]⟩
    · rintro F5 G5 H5 ⟨rfl, g, h57, hg⟩
      simp at h57
      simp [h57]
      have hxx : Ext H H5 := (Ext.more H (by simp)).tr (hx1.tr (hx2.tr hx4))
      refine Brt.mk (fun hc => ?_) (fun hc => ?_)
      · have hn : ¬ ParseOk l := by
          rintro ⟨h1, h2, h3, -⟩
          have := hg.2 ⟨hbn.2 h1, hb.2 h2, fun ⟨h4, h5⟩ => h3 ⟨h4, by rw [← hvn (hbn.2 h1), (List.length_eq_zero_iff.1 h5)]; rfl⟩⟩
          rw [this] at hc; cases hc
        simp [retOf]
        exact hQ _ _ ⟨hxx, _, .inr ⟨hn, rfl⟩, _, _, _, _, _, _, _, _, rfl⟩
      · obtain ⟨hb1, hb2, hb3⟩ := hg.1 hc
        have hv1 := hvn hb1
        have hv2 := hvy hb2
        simp
        have eN : (if minusL l = true then -(val xn : Int) else val xn) = numL l := by rw [hv1]; rfl
        have eD : (if false = true then -(val y : Int) else val y) = (denL l : Int) := by rw [hv2]; rfl
        refine SWt.mk (int_sh (madeZ_spec (neg := minusL l) (hUn.ext (hx2.tr hx4)) hTn)) ?_
        rintro u1 H6 ⟨hx6, s1, a1, n1, c1, rfl, hz1⟩
        rw [eN] at hz1
        simp [h11]
        refine SWt.mk (int_sh (madeZ_spec (neg := false) (hUy.ext hx6) hTy)) ?_
        rintro u2 H7 ⟨hx7, s2, a2, n2, c2, rfl, hz2⟩
        rw [eD] at hz2
        simp
        have hdp : 0 < denL l := by
          have h1 := hb.1 hb2
          unfold denL
          cases hu : underL l with
          | none => simp
          | some q => have := (h1 q hu).2; simp; omega
        have hx8 : Ext H7 (H7 ++ [.dead]) := Ext.more H7 (by simp)
        refine ZXt.join (by kernel_rfl) (fun F8 G8 H8 => Ext (H7 ++ [.dead]) H8 ∧ G8 2 = .agg #[.bool s1, .slice a1 n1 c1, .bool s2, .slice a2 n2 c2] ∧ ∃ g : Bool, F8 3 = .bool g ∧ (g = true ↔ (underL l = none ∨ Int.gcd (numL l) (denL l) = 1))) ?_ ?_
        · rintro K hK -
          cases hr : underL l with
          | none =>
            have hr' : (cutL 47 l).2 = none := hr
            simp [hr']
            refine hK _ _ _ ⟨Ext.refl _, by simp, true, by simp, by simp [hr]⟩
          | some q =>
            have hr' : (cutL 47 l).2 = some q := hr
            simp [hr']
            have fN : Fits (numL l) := by
              have h1 : (numL l).natAbs = val xn := by unfold numL; rw [← hv1]; split <;> omega
              unfold Fits; rw [h1]
              exact Nat.lt_of_lt_of_le (val_lt hUn.2) (pwR 4294967296 _ 1000000 (by decide) (by omega))
            have fD : Fits (denL l) := by
              unfold Fits; rw [Int.natAbs_natCast, ← hv2]
              exact Nat.lt_of_lt_of_le (val_lt hUy.2) (pwR 4294967296 _ 1000000 (by decide) (by omega))
            refine SWt.mk (gcd_spec ((hz1.ext hx7).ext hx8) (hz2.ext hx8) fN fD) ?_
            rintro u3 H9 ⟨hx9, hz3⟩
            refine ⟨hx9, ?_⟩
            simp
            refine SWt.mk (of_spec (n := 1) (by omega) (by omega)) ?_
            rintro u4 H10 ⟨hx10, hz4⟩
            refine ⟨hx10, ?_⟩
            simp
            have fG : Fits ((Int.gcd (numL l) (denL l) : Nat) : Int) := by
              have h2 : Int.gcd (numL l) (denL l) ≤ denL l := Nat.le_of_dvd hdp (Int.ofNat_dvd.1 (Int.gcd_dvd_right _ _))
              exact fD.le (by simpa using h2)
            refine SWt.mk (icmp_spec (hz3.ext hx10) hz4 fG (Fits.small (by decide))) ?_
            rintro u5 H11 ⟨hx11, rfl⟩
            refine ⟨hx11, ?_⟩
            obtain ⟨cc, hcc⟩ : ∃ cc : Int, (if ((Int.gcd (numL l) (denL l) : Nat) : Int) < 1 then -1 else if ((Int.gcd (numL l) (denL l) : Nat) : Int) = 1 then 0 else 1 : Int) = cc := ⟨_, rfl⟩
            rw [hcc]
            simp
            refine hK _ _ _ ⟨hx9.tr (hx10.tr hx11), by simp, decide (cc = 0), by simp, ?_⟩
            rw [decide_eq_true_iff]
            simp only [hr, reduceCtorEq, false_or]
            rw [← hcc]
            split
            · omega
            · split <;> omega
        · rintro F8 G8 H8 ⟨hx9, hG, g8, h3, hg8⟩
          simp at hG h3
          simp [hG, h3, retOf]
          have hxz := (hx6.tr (hx7.tr (hx8.tr hx9)))
          have hok : ParseOk l ↔ g8 = true := by
            rw [hg8]
            refine ⟨fun h => h.2.2.2, fun h => ⟨hbn.1 hb1, hb.1 hb2, fun ⟨h4, h5⟩ => hb3 ⟨h4, ?_⟩, h⟩⟩
            rw [← hv1] at h5
            exact (Nat.eq_zero_or_pos _).resolve_right fun h => by have := hTn.pos.1 h; omega
          cases g8 with
          | true =>
            have hg1 : Int.gcd (numL l) (denL l) = 1 := by
              rcases hg8.1 rfl with h | h
              · have : denL l = 1 := by simp [denL, h]
                rw [this]; simp
              · exact h
            refine hQ _ _ ⟨hxx.tr hxz, _, .inl ⟨hok.2 rfl, rfl, ?_⟩, _, _, _, _, _, _, _, _, rfl⟩
            obtain ⟨e1, e2⟩ := divInt_nd (numL l) (denL l) (by omega)
            have hg2 : Nat.gcd (numL l).natAbs (denL l) = 1 := hg1
            rw [hg2] at e1 e2
            refine ⟨_, _, _, _, rfl, ?_, ?_⟩
            · rw [e1]; simpa using hz1.ext (hx7.tr (hx8.tr hx9))
            · rw [e2]; simpa using hz2.ext (hx8.tr hx9)
          | false =>
            refine hQ _ _ ⟨hxx.tr hxz, _, .inr ⟨fun h => (by have := hok.1 h; cases this), rfl⟩, _, _, _, _, _, _, _, _, rfl⟩
abbrev QRow (H : SHeap) (v : Value) (r : List Rat) : Prop := Row 80 4 true RatQ H v r
instance : Mono QRow := ⟨fun h hx => Mono.ext (R := Row 80 4 true RatQ) h hx⟩
abbrev QTab (H : SHeap) (v : Value) (t : List (List Rat)) : Prop := Row 120 1 false QRow H v t
instance : Mono QTab := ⟨fun h hx => Mono.ext (R := Row 120 1 false QRow) h hx⟩
theorem QTab.ext {H H1 : SHeap} {v : Value} {t : List (List Rat)} (h : QTab H v t) (hx : Ext H H1) : QTab H1 v t := Mono.ext h hx
def qsum (r : List Rat) : Rat := r.foldl (· + ·) 0
theorem qsum_take {r : List Rat} {i : Nat} {q : Rat} (h : r[i]? = some q) : qsum (r.take (i + 1)) = qsum (r.take i) + q := by
  have hi := (gsI.1 h).1
  rw [List.take_succ_eq_append_getElem hi]
  unfold qsum
  rw [List.foldl_append]
  simp [(gsI.1 h).2]
theorem load_spec {v : Value} {t : List (List Rat)} {j N : Nat} {row : List Rat} {H : SHeap} (hT : QTab H v t) (hr : t[j]? = some row) (hl : row.length < 4611686018427387904) (hjl : t.length < 4611686018427387904) (hs : ∀ k, SzQ N (qsum (row.take k))) (he : ∀ q ∈ row, SzQ N q) (hN : N ≤ 1000000) :
    SW prog 65 [.agg #[v], .int .i64 j] H (fun u H1 => Ext H H1 ∧ RatQ H1 u (qsum row)) := by
  refine SW.cps fun Q hQ => ?_
  apply into_shop_table_load (by simp)
  obtain ⟨a, c, rfl⟩ := Row.len hT
  simp [Z_shop_table_load]
  have hx0 : Ext H (H ++ [.dead, .dead]) := Ext.more H (by simp)
  refine SWt.mk (qwhole_spec (n := 0) (by omega) (by omega)) ?_
  rintro s0 H1 ⟨hx1, hs0⟩
  simp
  refine Putt.mk hs0.whole ?_
  simp
  have hx2 : Ext H1 (H1 ++ [.dead]) := Ext.more H1 (by simp)
  have hT2 := hT.ext (hx0.tr (hx1.tr hx2))
  refine tx_elem (R := QRow) (xs := t) (n := j) (a := row) (e := 120) (sz := 1) (ag := false) (by simpa using hT2) (by simp) hr (by simp) (by simp) (by simp) (by decide) ?_
  intro p0 ur hur
  refine tx_lnR (R := RatQ) (xs := row) (by simpa using hur) (by simp) ?_
  simp
  refine LoopZt.range (by kernel_rfl) row.length (by omega) (by simp) (by rfl) (by simp) (by decide) (by decide) (fun i F2 G2 H2 => Ext (H1 ++ [.dead]) H2 ∧ RatQ H2 (G2 5) (qsum (row.take i))) ?_ ?_ ?_
  · refine ⟨Ext.refl _, ?_⟩
    simpa [qsum] using hs0.ext hx2
  · rintro i F2 G2 H2 hi hF ⟨hx3, hs2⟩ K hK
    simp at hF hs2
    simp [hF]
    obtain ⟨x, hx⟩ : ∃ x, row[i]? = some x := ⟨_, gtE hi⟩
    refine tx_elem (R := RatQ) (xs := row) (n := i) (a := x) (e := 80) (sz := 4) (ag := true) (by simpa using Mono.ext hur hx3) (by simp [hF]) hx (by simp) (by simp) (by simp) (by decide) ?_
    intro p1 u hu
    simp
    refine Putt.mk hu.whole ?_
    simp
    have hx4 : Ext H2 (H2 ++ [.dead]) := Ext.more H2 (by simp)
    refine SWt.mk (qadd_spec (hs2.ext hx4) (hu.ext hx4) (hs i) (he x (List.mem_of_getElem? hx)) hN) ?_
    rintro w H3 ⟨hx5, hw⟩
    simp
    refine Putt.mk hw.whole ?_
    refine hK _ _ _ (by simp [hF]) ⟨hx3.tr (hx4.tr hx5), ?_⟩
    rw [qsum_take hx]
    simpa using hw
  · rintro F2 G2 H2 hF ⟨hx3, hs2⟩
    simp at hs2
    simp
    refine Putt.mk hs2.whole ?_
    simp [retOf]
    exact hQ _ _ ⟨hx0.tr (hx1.tr (hx2.tr hx3)), hs2⟩
end Go.Sx
end
