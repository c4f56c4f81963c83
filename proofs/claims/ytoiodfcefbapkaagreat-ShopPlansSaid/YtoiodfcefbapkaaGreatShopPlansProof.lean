/- ShopPlans returns true for every input and leaves it as it was: no condition. -/
import Derived.Test.YtoiodfcefbapkaaGreatShopPlansJ
set_option linter.unusedVariables false
set_option linter.unusedSimpArgs false
section
set_option maxRecDepth 8000
set_option maxHeartbeats 1000000
namespace Go.Sx
open Go.Proofs
open Go.Proofs.Tryz (prog)
attribute [-simp] tx_ia tx_ln tx_ix
attribute [-simp] bd_42
theorem denL_pos {l : List Nat} (h : ParseOk l) : (0 : Int) < denL l := by
  have := h.2.1
  unfold denL
  cases hu : underL l with
  | none => simp
  | some u => have := (this u hu).2; simp; omega
theorem divInt_pos {n d : Int} (hd : 0 < d) : 0 < Rat.divInt n d ↔ 0 < n := by
  have hd' : (0 : Rat) < (d : Rat) := by exact_mod_cast hd
  rw [Rat.divInt_eq_div]
  constructor
  · intro h
    have := Rat.mul_pos h hd'
    rw [Rat.div_mul_cancel (Rat.ne_of_gt hd')] at this
    exact_mod_cast this
  · intro h
    have hn : (0 : Rat) < (n : Rat) := by exact_mod_cast h
    rw [Rat.div_def]
    exact Rat.mul_pos hn (Rat.inv_pos.2 hd')
theorem valS_pos {l : List Nat} (h : ParseOk l) : 0 < valS l ↔ 0 < numL l := divInt_pos (denL_pos h)
theorem scheduleR_spec {v : Value} {sh : List (List Nat × List Int)} {n m : Nat} {H : SHeap} (hP : Row 93 2 true ShiftS H v sh) (hB : ∀ p ∈ sh, Bytes p.1) (hlen : ∀ p ∈ sh, p.1.length < 4611686018427387904 ∧ p.2.length < 65536) (hsh : sh.length < 4611686018427387904) (hn2 : n < 1000) (hm2 : m < 1000) :
    SW prog 14 [v, .int .i64 n, .int .i64 m] H (fun u H1 => Ext H H1 ∧ ∃ b, u = .bool b ∧ (b = true ↔ ∀ p ∈ sh, ShOk n m p)) := by
  refine SW.cps fun Q hQ => ?_
  have fail : ∀ {H1 p}, Ext H H1 → p ∈ sh → ¬ ShOk n m p → Q (.bool false) H1 := fun hx hp hno => hQ _ _ ⟨hx, false, rfl, ⟨fun h => (by cases h), fun h => absurd (h _ hp) hno⟩⟩
  apply into_ref_Schedule (by simp)
  simp [Z_ref_Schedule]
  have hxa : Ext H (H ++ [.dead]) := Ext.dead H
  refine LoopZt.mk (by kernel_rfl) (fun w F1 G1 H1 => ∃ i : Nat, w = sh.length - i ∧ i ≤ sh.length ∧ F1 7 = .int .i64 (i : Int) ∧ Ext H H1 ∧ ∀ p ∈ sh.take i, ShOk n m p) sh.length ⟨0, by omega, by omega, by simp, Ext.refl _, by simp⟩ ?_
  rintro w F1 G1 H1 ⟨i, rfl, hi, h7, hx1, hall⟩ K hK
  simp at h7
  have hP1 := Mono.ext (R := Row _ _ _ ShiftS) hP hx1
  simp [h7]
  refine tx_lnR (R := ShiftS) (xs := sh) (by simpa using hP1) (by simp) ?_
  simp
  refine Brt.mkD (fun hlt => ?_) (fun hlt => ?_)
  · refine Exists.elim (⟨_, gtE hlt⟩ : ∃ p, sh[i]? = some p) fun p hp => ?_
    have hpm := List.mem_of_getElem? hp
    have hpB := hB p hpm
    have hpl := hlen p hpm
    have hwi := wok (show i < 4611686018427387904 by omega)
    simp [h7]
    refine tx_elemShift (xs := sh) (n := i) (a := p) (by simpa using hP1) (by simp [h7]) hp (by simp) ?_
    intro p8 a8 c8 hj8
    try simp
    have hxd := Ext.dead H1
    have hx1d := hx1.tr hxd
    refine ZXt.join (by kernel_rfl) (fun F2 G2 H2 => Ext (H1 ++ [.dead]) H2 ∧ ∃ bad, F2 39 = .bool bad ∧ (bad = false ↔ ParseOk p.1 ∧ 0 < valS p.1 ∧ p.2.length = m)) ?_ ?_
    · rintro K2 hK2 -
      simp
      refine SWt.mk (bvalid_spec hpB hpl.1) ?_
      rintro _ H3 ⟨hx3, b, rfl, hb⟩
      cases b with
      | false =>
        simp
        exact hK2 _ _ _ ⟨hx3, true, by simp, ⟨fun h => (by cases h), fun h => by have := hb.2 h.1; cases this⟩⟩
      | true =>
        have hpok := hb.1 rfl
        simp
        refine SWt.mk (bof_spec hpB hpl.1) ?_
        rintro _ H4 ⟨hx4, n4, d4, ⟨s1, a1, n1, c1, s2, a2, n2, c2, rfl, hz1, hz2⟩, hnd⟩
        have hn4 := (hnd hpok).1
        simp
        refine SWt.mk (bsign_spec hz1) ?_
        rintro _ H5 ⟨hx5, rfl⟩
        have hx35 := hx3.tr (hx4.tr hx5)
        have hvp := valS_pos hpok
        by_cases hpos : 0 < n4
        · have hsg : ¬ ((if n4 < 0 then (-1 : Int) else if n4 = 0 then 0 else 1) ≤ 0) := by
            rw [if_neg (by omega), if_neg (by omega)]; omega
          simp [hsg]
          refine tx_lnR (R := IR) (xs := p.2) (by simpa using Mono.ext (R := IRow) hj8 (hxd.tr hx35)) (by simp) ?_
          simp
          refine hK2 _ _ _ ⟨hx35, !decide ((p.2.length : Int) = m), by simp, ?_⟩
          simp [hpok, hvp, ← hn4, hpos]
          omega
        · have hsg : ((if n4 < 0 then (-1 : Int) else if n4 = 0 then 0 else 1) ≤ 0) := by
            split
            · omega
            · rw [if_pos (by omega)]; omega
          simp [hsg]
          refine hK2 _ _ _ ⟨hx35, true, by simp, ?_⟩
          simp [hpok, hvp, ← hn4, hpos]
    · rintro F2 G2 H2 ⟨hx2, bad, h39, hbad⟩
      simp only [mix_ap] at h39
      simp at h39
      have hx02 := hx1d.tr hx2
      simp [h39]
      refine Brt.mk (fun hb => ?_) (fun hb => ?_)
      · simp [retOf]
        refine fail hx02 hpm fun hs => ?_
        have := hbad.2 hs.1
        rw [this] at hb
        cases hb
      · have hg := hbad.1 hb
        have hpm' := hg.2.2
        have hj2 := Mono.ext (R := IRow) hj8 (hxd.tr hx2)
        have hw1 : IntKind.i64.wrap ((n : Int) - 1) = (n : Int) - 1 := w64 (by omega) (by omega)
        simp
        refine LoopZt.mk (by kernel_rfl) (fun w F3 G3 H3 => ∃ k : Nat, w = m - k ∧ k ≤ m ∧ F3 9 = .int .i64 (k : Int) ∧ H3 = H2 ∧ ∀ j, j < k → JobAt n p.2 j) m ⟨0, by omega, by omega, by simp, rfl, fun j hj => by omega⟩ ?_
        rintro w F3 G3 H3 ⟨k, rfl, hk, h9, rfl, hja⟩ K3 hK3
        simp at h9
        simp [h9]
        refine Brt.mkD (fun hkl => ?_) (fun hkl => ?_)
        · refine Exists.elim (⟨_, gtE (show k < p.2.length by omega)⟩ : ∃ x, p.2[k]? = some x) fun x hx => ?_
          have hwk := wok (show k < 4611686018427387904 by omega)
          simp [h9]
          refine tx_elem (R := IR) (xs := p.2) (n := k) (a := x) (e := 3) (sz := 1) (ag := false) (by simpa using hj2) (by simp [h9]) hx (by simp) (by simp) (by simp) (by decide) ?_
          rintro p10 u10 rfl
          simp [hw1]
          refine SWt.mk in_spec ?_
          rintro _ H3 ⟨rfl, rfl⟩
          simp
          refine Brt.mk (fun hin => ?_) (fun hin => ?_)
          · simp at hin
            simp [retOf]
            refine fail hx02 hpm fun hs => ?_
            obtain ⟨x', q1, q2, q3, q4⟩ := ((jobsOk_iff.1 hs.2).2 k hkl)
            rw [hx] at q1
            have := Option.some.inj q1
            subst this
            omega
          · simp at hin
            simp
            refine LoopZt.mk (by kernel_rfl) (fun w F4 G4 H4 => ∃ l : Nat, w = k - l ∧ l ≤ k ∧ F4 10 = .int .i64 (l : Int) ∧ H4 = H3 ∧ ∀ j, j < l → ¬ (0 ≤ x ∧ p.2[j]? = some x)) k ⟨0, by omega, by omega, by simp, rfl, fun j hj => by omega⟩ ?_
            rintro w F4 G4 H4 ⟨l, rfl, hl, h10, rfl, hno⟩ K4 hK4
            simp at h10
            simp [h9, h10]
            refine Brt.mkD (fun hlk => ?_) (fun hlk => ?_)
            · refine Exists.elim (⟨_, gtE (show l < p.2.length by omega)⟩ : ∃ y, p.2[l]? = some y) fun y hy => ?_
              have hwl := wok (show l < 4611686018427387904 by omega)
              try simp
              refine ZXt.join (by kernel_rfl) (fun F5 G5 H5 => H5 = H4 ∧ F5 77 = .bool (decide (0 ≤ x ∧ x = y))) ?_ ?_
              · rintro K5 hK5 -
                simp [h9]
                refine tx_elem (R := IR) (xs := p.2) (n := k) (a := x) (e := 3) (sz := 1) (ag := false) (by simpa using hj2) (by simp [h9]) hx (by simp) (by simp) (by simp) (by decide) ?_
                rintro p11 u11 rfl
                by_cases h0 : 0 ≤ x
                · simp [h0, h9]
                  refine tx_elemg (R := IR) (xs := p.2) (n := k) (a := x) (e := 3) (sz := 1) (ag := false) (by simp [h0]) (by decide) (by simpa using hj2) (by simp [h9]) hx (by simp) (by simp) (by simp) (by decide) ?_
                  rintro p12 u12 rfl
                  simp [h0, h10]
                  refine tx_elemg (R := IR) (xs := p.2) (n := l) (a := y) (e := 3) (sz := 1) (ag := false) (by simp [h0]) (by decide) (by simpa using hj2) (by simp [h10]) hy (by simp) (by simp) (by simp) (by decide) ?_
                  rintro p13 u13 rfl
                  simp
                  exact hK5 _ _ _ ⟨rfl, by simp [h0]⟩
                · simp [h0]
                  exact hK5 _ _ _ ⟨rfl, by simp [h0]⟩
              · rintro F5 G5 H5 ⟨rfl, h77⟩
                simp only [mix_ap] at h77
                simp at h77
                simp [h77]
                refine Brt.mk (fun hb5 => ?_) (fun hb5 => ?_)
                · simp at hb5
                  simp [retOf]
                  refine fail hx02 hpm fun hs => ?_
                  obtain ⟨x', q1, q2, q3, q4⟩ := ((jobsOk_iff.1 hs.2).2 k hkl)
                  rw [hx] at q1
                  have := Option.some.inj q1
                  subst this
                  exact q4 hb5.1 (List.mem_of_getElem? (i := l) (by rw [List.getElem?_take_of_lt hlk, hy, hb5.2]))
                · simp at hb5
                  simp [h10, hwl]
                  refine hK4 (k - (l + 1)) _ _ _ (by omega) ⟨l + 1, rfl, by omega, by simp, rfl, fun j hj => ?_⟩
                  by_cases hjl : j < l
                  · exact hno j hjl
                  · obtain rfl : j = l := by omega
                    rintro ⟨g1, g2⟩
                    rw [hy] at g2
                    exact hb5 g1 (Option.some.inj g2).symm
            · simp [h9, hwk]
              refine hK3 (m - (k + 1)) _ _ _ (by omega) ⟨k + 1, rfl, by omega, by simp, rfl, fun j hj => ?_⟩
              by_cases hjk : j < k
              · exact hja j hjk
              · obtain rfl : j = k := by omega
                refine ⟨x, hx, by omega, by omega, fun h0 hmem => ?_⟩
                obtain ⟨a, ha⟩ := List.mem_iff_getElem?.1 hmem
                have hal : a < j := by have := (gsI.1 ha).1; simp at this; omega
                rw [List.getElem?_take_of_lt hal] at ha
                exact hno a (by omega) ⟨h0, ha⟩
        · have hkm : k = m := by omega
          simp [h7, hwi]
          refine hK (sh.length - (i + 1)) _ _ _ (by omega) ⟨i + 1, rfl, by omega, by simp, hx02, fun q hq => ?_⟩
          rw [List.take_add_one, hp] at hq
          rcases List.mem_append.1 hq with hq | hq
          · exact hall q hq
          · simp at hq
            subst hq
            exact ⟨hg, jobsOk_iff.2 ⟨hpm', fun j hj => hja j (by omega)⟩⟩
  · simp [retOf]
    rw [List.take_of_length_le (by omega)] at hall
    exact hQ _ _ ⟨hx1, true, rfl, ⟨fun _ => hall, fun _ => rfl⟩⟩
section
variable {r : List XOp} {F : Fr} {H : SHeap} {Q : Fr → SHeap → Prop}
theorem shift_cells {v : Value} {sh : List (List Nat × List Int)} {n : Nat} {a : List Nat × List Int} (hR : Row 93 2 true ShiftS H v sh) (ha : sh[n]? = some a) : ∃ b o cap X all a3 c3, v = .slice (some ⟨b, o, none⟩) sh.length cap ∧ H[b]? = some X ∧ X.cells? = some all ∧ all[o + n * 2]? = some (.string (bs' a.1)) ∧ all[o + n * 2 + 1]? = some (.slice a3 a.2.length c3) ∧ IRow H (.slice a3 a.2.length c3) a.2 := by
  obtain ⟨b, o, cap, X, all, ⟨hv, hX, hc, hfit, hu⟩ | ⟨q1, q2⟩⟩ := hR.at ha
  · simp only [if_true] at hu
    obtain ⟨a3, n3, c3, he, h2⟩ := hu
    obtain ⟨a', c', he'⟩ := h2.len
    simp at he'
    obtain ⟨rfl, rfl, rfl⟩ := he'
    simp at he
    refine ⟨b, o, cap, X, all, a3, c3, hv, hX, hc, ?_, ?_, h2⟩
    · have := congrArg (fun l : List Value => l[0]?) he
      simpa [List.getElem?_take, List.getElem?_drop] using this
    · have := congrArg (fun l : List Value => l[1]?) he
      simpa [List.getElem?_take, List.getElem?_drop] using this
  · cases q1
theorem tx_shiftL {d t d1 d2 n : Nat} {x i : Operand} {sh : List (List Nat × List Int)} {a : List Nat × List Int} {tk : Tok (ia d t x i :: fa d1 93 (T d) 0 :: ld d2 45 (T d1) :: r) Q} (hR : Row 93 2 true ShiftS H (fev F x) sh) (hi : fev F i = .int .i64 (n : Int)) (ha : sh[n]? = some a)
    (ht : sliceE prog t = some 93) (K : ∀ p q, XWt prog r Q .mk (upd (upd (upd F d p) d1 q) d2 (.string (bs' a.1))) H) : XWt prog (ia d t x i :: fa d1 93 (T d) 0 :: ld d2 45 (T d1) :: r) Q tk F H := by
  have hl : n < sh.length := (gsI.1 ha).1
  obtain ⟨b, o, cap, X, all, a3, c3, hv, hX, hc, h0, h1, h2⟩ := shift_cells hR ha
  rw [tx_ia, hv, hi, OnSlt_sl, OnIt_int, ht, Gett_some, show sz? prog 93 = some 2 by rfl, Gett_some, OnAt_a]
  refine Chkt.mk ⟨by omega, by omega⟩ ?_
  rw [tx_fa]
  simp only [fev_T, upd_same, OnPt_ptr, show fieldOff prog 93 0 = some 0 by rfl, Gett_some, Nat.add_zero]
  rw [tx_ld]
  simp only [fev_T, upd_same, OnPt_ptr, hX, Option.bind_some, hc, Gett_some, show aggB prog 45 = some false by rfl, Int.toNat_natCast, Brt_false, h0]
  exact K _ _
theorem tx_shiftJ {d t d1 d2 n : Nat} {x i : Operand} {sh : List (List Nat × List Int)} {a : List Nat × List Int} {tk : Tok (ia d t x i :: fa d1 93 (T d) 1 :: ld d2 34 (T d1) :: r) Q} (hR : Row 93 2 true ShiftS H (fev F x) sh) (hi : fev F i = .int .i64 (n : Int)) (ha : sh[n]? = some a)
    (ht : sliceE prog t = some 93) (K : ∀ p q u, IRow H u a.2 → XWt prog r Q .mk (upd (upd (upd F d p) d1 q) d2 u) H) : XWt prog (ia d t x i :: fa d1 93 (T d) 1 :: ld d2 34 (T d1) :: r) Q tk F H := by
  have hl : n < sh.length := (gsI.1 ha).1
  obtain ⟨b, o, cap, X, all, a3, c3, hv, hX, hc, h0, h1, h2⟩ := shift_cells hR ha
  rw [tx_ia, hv, hi, OnSlt_sl, OnIt_int, ht, Gett_some, show sz? prog 93 = some 2 by rfl, Gett_some, OnAt_a]
  refine Chkt.mk ⟨by omega, by omega⟩ ?_
  rw [tx_fa]
  simp only [fev_T, upd_same, OnPt_ptr, show fieldOff prog 93 1 = some 1 by rfl, Gett_some]
  rw [tx_ld]
  simp only [fev_T, upd_same, OnPt_ptr, hX, Option.bind_some, hc, Gett_some, show aggB prog 34 = some false by rfl, Int.toNat_natCast, Brt_false, h1]
  exact K _ _ _ h2
end
theorem wholeR_spec {v : Value} {sh : List (List Nat × List Int)} {H : SHeap} (hP : Row 93 2 true ShiftS H v sh) (hB : ∀ p ∈ sh, Bytes p.1) (hlen : ∀ p ∈ sh, p.1.length < 4611686018427387904) (hsh : sh.length < 4611686018427387904) (hok : ∀ p ∈ sh, ParseOk p.1 ∧ denL p.1 = 1) :
    SW prog 15 [v] H (fun u H1 => Ext H H1 ∧ u = .bool true) := by
  refine SW.cps fun Q hQ => ?_
  apply into_law_whole (by simp)
  simp [Z_law_whole]
  refine LoopZt.mk (by kernel_rfl) (fun w F1 G1 H1 => ∃ i : Nat, w = sh.length - i ∧ i ≤ sh.length ∧ F1 3 = .int .i64 (i : Int) ∧ Ext H H1) sh.length ⟨0, by omega, by omega, by simp, Ext.refl _⟩ ?_
  rintro w F1 G1 H1 ⟨i, rfl, hi, h3, hx1⟩ K hK
  simp at h3
  have hP1 := Mono.ext (R := Row _ _ _ ShiftS) hP hx1
  simp [h3]
  refine tx_lnR (R := ShiftS) (xs := sh) (by simpa using hP1) (by simp) ?_
  simp
  refine Brt.mkD (fun hlt => ?_) (fun hlt => ?_)
  · refine Exists.elim (⟨_, gtE hlt⟩ : ∃ p, sh[i]? = some p) fun p hp => ?_
    have hpm := List.mem_of_getElem? hp
    have hwi := wok (show i < 4611686018427387904 by omega)
    simp [h3]
    refine tx_shiftL (sh := sh) (n := i) (a := p) (by simpa using hP1) (by simp [h3]) hp (by simp) ?_
    intro p5 q5
    simp
    refine SWt.mk (binteger_spec (hB p hpm) (hlen p hpm)) ?_
    rintro _ H4 ⟨hx4, b, rfl, hb⟩
    obtain rfl := hb.2 (hok p hpm)
    simp [h3, hwi]
    exact hK (sh.length - (i + 1)) _ _ _ (by omega) ⟨i + 1, rfl, by omega, by simp, hx1.tr hx4⟩
  · simp [retOf]
    exact hQ _ _ ⟨hx1, rfl⟩
theorem SzQ.fz {N : Nat} {q : Rat} (h : SzQ N q) : FZ N q.num ∧ FZ N (q.den : Int) := by
  have hp : 2 ^ N ≤ 10000 ^ N := Nat.pow_le_pow_left (by decide) N
  refine ⟨?_, ?_⟩
  · exact Nat.lt_of_lt_of_le h.1 hp
  · exact Nat.lt_of_lt_of_le h.2 hp
theorem add_divInt {q : Rat} {n d : Int} (hd : 0 < d) : q + Rat.divInt n d = Rat.divInt (q.num * d + n * q.den) (q.den * d) := by
  have h := Rat.divInt_add_divInt q.num n (d₁ := q.den) (d₂ := d) (by have := q.den_pos; omega) (by omega)
  rw [← h, Rat.num_divInt_den]
theorem lengthR_spec {v : Value} {sh : List (List Nat × List Int)} {H : SHeap} (hP : Row 93 2 true ShiftS H v sh) (hB : ∀ p ∈ sh, Bytes p.1) (hlen : ∀ p ∈ sh, p.1.length < 4611686018427387904) (hsh : sh.length ≤ 2000) (hok : ∀ p ∈ sh, ParseOk p.1) :
    SW prog 18 [v] H (fun u H1 => Ext H H1 ∧ QN H1 u (plen (parts sh)).num (plen (parts sh)).den) := by
  refine SW.cps fun Q hQ => ?_
  apply into_ref_Length (by simp)
  simp [Z_ref_Length]
  have hx0 := Ext.dead H
  refine SWt.mk (bwhole_spec (n := 0) (by omega) (by omega)) ?_
  rintro w1 H1 ⟨hx1, hw1⟩
  simp
  refine Putt.mk hw1.whole ?_
  simp
  have hx2 := Ext.dead H1
  refine LoopZt.mk (by kernel_rfl) (fun w F3 G3 H3 => ∃ i : Nat, w = sh.length - i ∧ i ≤ sh.length ∧ F3 4 = .int .i64 (i : Int) ∧ Ext H H3 ∧ QN H3 (G3 3) (plen (parts (sh.take i))).num (plen (parts (sh.take i))).den) sh.length ⟨0, by omega, by omega, by simp, hx0.tr (hx1.tr hx2), by simpa [parts, plen] using hw1.ext hx2⟩ ?_
  rintro w F3 G3 H3 ⟨i, rfl, hi, h4, hx3, hq3⟩ K hK
  simp at h4 hq3
  have hP3 := Mono.ext (R := Row _ _ _ ShiftS) hP hx3
  simp [h4]
  refine tx_lnR (R := ShiftS) (xs := sh) (by simpa using hP3) (by simp) ?_
  simp
  refine Brt.mkD (fun hlt => ?_) (fun hlt => ?_)
  · refine Exists.elim (⟨_, gtE hlt⟩ : ∃ p, sh[i]? = some p) fun p hp => ?_
    have hpm := List.mem_of_getElem? hp
    have hpok := hok p hpm
    have hwi := wok (show i < 4611686018427387904 by omega)
    have hsz := (sums_sz (sh := sh.take i) fun q hq => hok q (List.mem_of_mem_take hq)).1
    have hsl : (sh.take i).length = i := by simp; omega
    rw [hsl] at hsz
    have hszi : szS i ≤ 26580001 := by unfold szS; omega
    refine Exists.elim (⟨szS i + 1000, rfl, by omega, by omega, by omega⟩ : ∃ N, N = szS i + 1000 ∧ szS i ≤ N ∧ 1000 ≤ N ∧ N ≤ 26581001) fun N hN => ?_
    have f1 : FZ N (plen (parts (sh.take i))).num := hsz.fz.1.mono hN.2.1
    have f2 : FZ N ((plen (parts (sh.take i))).den : Int) := hsz.fz.2.mono hN.2.1
    have f3 : FZ N (numL p.1) := (FZ.num hpok).mono hN.2.2.1
    have f4 : FZ N (denL p.1 : Int) := (FZ.den hpok).mono hN.2.2.1
    have hNb := hN.2.2.2
    clear hN hszi
    have hd := denL_pos hpok
    have hnext : plen (parts (sh.take (i + 1))) = Rat.divInt ((plen (parts (sh.take i))).num * denL p.1 + numL p.1 * (plen (parts (sh.take i))).den) ((plen (parts (sh.take i))).den * denL p.1) := by
      rw [parts_take hp, plen_snoc]
      exact add_divInt hd
    have hdp : (0 : Int) < (plen (parts (sh.take i))).den * denL p.1 := Int.mul_pos (by have := (plen (parts (sh.take i))).den_pos; omega) hd
    simp [h4]
    refine tx_shiftL (sh := sh) (n := i) (a := p) (by simpa using hP3) (by simp [h4]) hp (by simp) ?_
    intro p5 q5
    simp
    refine SWt.mk (bof_spec (hB p hpm) (hlen p hpm)) ?_
    rintro w6 H6 ⟨hx6, n6, d6, hq6, hnd⟩
    refine ⟨hx6, ?_⟩
    have e1 := (hnd hpok).1
    have e2 := (hnd hpok).2
    subst e1 e2
    try simp
    refine SWt.mk (baddq_spec (N := N) (hq3.ext hx6) hq6 f1 f2 f3 f4 (by omega)) ?_
    rintro w7 H7 ⟨hx7, hq7⟩
    try simp
    refine SWt.mk (blowestq_spec (N := N + N + 1) hnext hq7 hdp ((f1.mul f4).add (f3.mul f2)) ((f2.mul f4).mono (by omega)) (by omega)) ?_
    rintro w8 H8 ⟨hx8, hq8⟩
    try simp
    refine Putt.mk hq8.whole ?_
    simp [h4, hwi]
    refine hK (sh.length - (i + 1)) _ _ _ (by omega) ⟨i + 1, rfl, by omega, by simp, hx3.tr (hx6.tr (hx7.tr hx8)), by simpa using hq8⟩
  · simp
    refine Putt.mk hq3.whole ?_
    simp [retOf]
    rw [List.take_of_length_le (by omega)] at hq3
    exact hQ _ _ ⟨hx3, hq3⟩
abbrev STab (H : SHeap) (v : Value) (pls : List (List (List Nat × List Int))) : Prop := Row 27 1 false (Row 93 2 true ShiftS) H v pls
instance : Mono STab := ⟨fun h hx => Mono.ext (R := Row 27 1 false (Row 93 2 true ShiftS)) h hx⟩
theorem parts_append (a b : List (List Nat × List Int)) : parts (a ++ b) = parts a ++ parts b := by simp [parts]
theorem flat_take {α : Type} {pls : List (List α)} {p : Nat} {pl : List α} (h : pls[p]? = some pl) : (pls.take (p + 1)).flatten = (pls.take p).flatten ++ pl := by
  rw [List.take_add_one, h]; simp
theorem divInt_one (x : Int) : Rat.divInt x 1 = (x : Rat) := by
  have := Rat.num_divInt_den (x : Rat)
  rw [Rat.num_intCast, Rat.den_intCast] at this
  exact this
theorem num_eq_int {q : Rat} {x : Int} : q = ((x : Int) : Rat) ↔ q.num * 1 = x * q.den := by
  constructor
  · intro h; rw [h]; simp
  · intro h
    rw [← Rat.num_divInt_den q, show q.num = x * (q.den : Int) by omega]
    have h1 := Rat.divInt_mul_right (n := x) (d := 1) (a := (q.den : Int)) (by have := q.den_pos; omega)
    rw [Int.one_mul] at h1
    rw [h1]
    exact divInt_one x
theorem bcmpq0_spec {v w : Value} {q : Rat} {x : Int} {N : Nat} {H : SHeap} (hA : QN H v q.num q.den) (hB : QN H w x 1) (f1 : FZ N q.num) (f2 : FZ N q.den) (f3 : FZ N x) (f4 : FZ N 1) (hN : N ≤ 1000000000) : SW prog 17 [v, w] H (fun u H1 => Ext H H1 ∧ ∃ z, u = .int .i64 z ∧ (z = 0 ↔ q = ((x : Int) : Rat))) := by
  refine SW.mono (bcmpq_spec hA hB f1 f2 f3 f4 hN) ?_
  rintro _ H1 ⟨hx1, rfl⟩
  refine ⟨hx1, _, rfl, ?_⟩
  rw [num_eq_int]
  split
  · omega
  · split <;> omega
theorem doesR_spec {v w : Value} {t : List (List Int)} {pls : List (List (List Nat × List Int))} {H : SHeap} (hI : ITab H v t) (hv : ValidT t) (hP : STab H w pls) (hB : ∀ pl ∈ pls, ∀ p ∈ pl, Bytes p.1) (hlen : ∀ pl ∈ pls, ∀ p ∈ pl, p.1.length < 4611686018427387904) (hpls : pls.length < 4611686018427387904) (hsh : pls.flatten.length ≤ 2000) (hok : ∀ pl ∈ pls, ∀ p ∈ pl, ParseOk p.1 ∧ p.2.length = (t[0]?.getD []).length) :
    SW prog 16 [v, w] H (fun u H1 => Ext H H1 ∧ ∃ b, u = .bool b ∧ (b = true ↔ ∀ i k, i < t.length → k < (t[0]?.getD []).length → psum (parts pls.flatten) i k = ((entI t i k : Int) : Rat))) := by
  refine SW.cps fun Q hQ => ?_
  obtain ⟨m, hm⟩ : ∃ m, m = (t[0]?.getD []).length := ⟨_, rfl⟩
  have hs := hv.small
  have hml := hv.len
  have v1 := hv.1
  have v2 := hv.2.1
  have v4 := hv.2.2.2.1
  rw [← hm] at hml v4 hok hQ
  have fail : ∀ {H1 i k}, Ext H H1 → i < t.length → k < m → psum (parts pls.flatten) i k ≠ ((entI t i k : Int) : Rat) → Q (.bool false) H1 := fun hx hi hk hno => hQ _ _ ⟨hx, false, rfl, ⟨fun h => (by cases h), fun h => absurd (h _ _ hi hk) hno⟩⟩
  apply into_ref_Does (by simp)
  simp [Z_ref_Does]
  refine LoopZt.mk (by kernel_rfl) (fun w1 F1 G1 H1 => ∃ i : Nat, w1 = t.length - i ∧ i ≤ t.length ∧ F1 5 = .int .i64 (i : Int) ∧ Ext H H1 ∧ ∀ j k, j < i → k < m → psum (parts pls.flatten) j k = ((entI t j k : Int) : Rat)) t.length ⟨0, by omega, by omega, by simp, Ext.refl _, fun j k hj => by omega⟩ ?_
  rintro w1 F1 G1 H1 ⟨i, rfl, hi, h5, hx1, hall⟩ K hK
  simp at h5
  have hI1 := Mono.ext (R := ITab) hI hx1
  simp [h5]
  refine tx_lnR (R := IRow) (xs := t) (by simpa using hI1) (by simp) ?_
  simp
  refine Brt.mkD (fun hlt => ?_) (fun hlt => ?_)
  · refine Exists.elim (⟨_, gtE hlt⟩ : ∃ p, t[i]? = some p) fun row hrow => ?_
    have hmem := List.mem_of_getElem? hrow
    have hrl := hml _ hmem
    have hwi := wok (show i < 4611686018427387904 by omega)
    simp
    refine LoopZt.mk (by kernel_rfl) (fun w2 F2 G2 H2 => ∃ k : Nat, w2 = m - k ∧ k ≤ m ∧ F2 6 = .int .i64 (k : Int) ∧ Ext H H2 ∧ ∀ j, j < k → psum (parts pls.flatten) i j = ((entI t i j : Int) : Rat)) m ⟨0, by omega, by omega, by simp, hx1, fun j hj => by omega⟩ ?_
    rintro w2 F2 G2 H2 ⟨k, rfl, hk, h6, hx2, hal2⟩ K2 hK2
    simp at h6
    have hI2 := Mono.ext (R := ITab) hI hx2
    simp [h5, h6]
    refine tx_elem (R := IRow) (xs := t) (n := i) (a := row) (e := 34) (sz := 1) (ag := false) (by simpa using hI2) (by simp [h5]) hrow (by simp) (by simp) (by simp) (by decide) ?_
    rintro p8 u8 hu8
    try simp
    refine tx_lnR (R := IR) (xs := row) (by simpa using hu8) (by simp) ?_
    simp only [hrl]
    simp [h6]
    refine Brt.mkD (fun hkl => ?_) (fun hkl => ?_)
    · refine Exists.elim (⟨_, gtE (show k < row.length by omega)⟩ : ∃ p, row[k]? = some p) fun x hx => ?_
      have hwk := wok (show k < 4611686018427387904 by omega)
      have hxb := (hs _ hmem).2 x (List.mem_of_getElem? hx)
      have hent : entI t i k = x := by unfold entI; rw [hrow]; simp [hx]
      simp
      refine SWt.mk (bwhole_spec (n := 0) (by omega) (by omega)) ?_
      rintro w3 H3 ⟨hx3, hw3⟩
      simp
      refine Putt.mk hw3.whole ?_
      simp
      have hxd := Ext.dead H3
      have hx03 := hx2.tr (hx3.tr hxd)
      refine LoopZt.mk (by kernel_rfl) (fun w4 F4 G4 H4 => ∃ p : Nat, w4 = pls.length - p ∧ p ≤ pls.length ∧ F4 8 = .int .i64 (p : Int) ∧ Ext H H4 ∧ QN H4 (G4 7) (psum (parts (pls.take p).flatten) i k).num (psum (parts (pls.take p).flatten) i k).den) pls.length ⟨0, by omega, by omega, by simp, hx03, by simpa [parts, psum] using hw3.ext hxd⟩ ?_
      rintro w4 F4 G4 H4 ⟨p, rfl, hp, h8, hx4, hq4⟩ K4 hK4
      simp at h8 hq4
      have hP4 := Mono.ext (R := STab) hP hx4
      simp [h8]
      refine tx_lnR (R := Row 93 2 true ShiftS) (xs := pls) (by simpa using hP4) (by simp) ?_
      simp
      refine Brt.mkD (fun hpl => ?_) (fun hpl => ?_)
      · refine Exists.elim (⟨_, gtE hpl⟩ : ∃ p1, pls[p]? = some p1) fun pl hpl1 => ?_
        have hplm := List.mem_of_getElem? hpl1
        have hwp := wok (show p < 4611686018427387904 by omega)
        have hfl := flat_take hpl1
        have hfl2 : ((pls.take p).flatten ++ pl).length ≤ pls.flatten.length := by
          rw [← hfl]
          have := congrArg (fun l : List (List (List Nat × List Int)) => l.flatten.length) (List.take_append_drop (p + 1) pls)
          simp only [List.flatten_append, List.length_append] at this
          omega
        rw [List.length_append] at hfl2
        simp
        refine LoopZt.mk (by kernel_rfl) (fun w5 F5 G5 H5 => ∃ s : Nat, w5 = pl.length - s ∧ s ≤ pl.length ∧ F5 9 = .int .i64 (s : Int) ∧ Ext H H5 ∧ QN H5 (G5 7) (psum (parts ((pls.take p).flatten ++ pl.take s)) i k).num (psum (parts ((pls.take p).flatten ++ pl.take s)) i k).den) pl.length ⟨0, by omega, by omega, by simp, hx4, by simpa using hq4⟩ ?_
        rintro w5 F5 G5 H5 ⟨s, rfl, hsl, h9, hx5, hq5⟩ K5 hK5
        simp at h9 hq5
        have hP5 := Mono.ext (R := STab) hP hx5
        simp [h8, h9]
        refine tx_elem (R := Row 93 2 true ShiftS) (xs := pls) (n := p) (a := pl) (e := 27) (sz := 1) (ag := false) (by simpa using hP5) (by simp [h8]) hpl1 (by simp) (by simp) (by simp) (by decide) ?_
        rintro p9 u9 hu9
        try simp
        refine tx_lnR (R := ShiftS) (xs := pl) (by simpa using hu9) (by simp) ?_
        simp [h9]
        refine Brt.mkD (fun hss => ?_) (fun hss => ?_)
        · refine Exists.elim (⟨_, gtE hss⟩ : ∃ p1, pl[s]? = some p1) fun sh hsh1 => ?_
          have hshm := List.mem_of_getElem? hsh1
          have hpok := (hok pl hplm sh hshm).1
          have hjl := (hok pl hplm sh hshm).2
          have hws := wok (show s < 4611686018427387904 by omega)
          refine Exists.elim (⟨_, gtE (show k < sh.2.length by omega)⟩ : ∃ p1, sh.2[k]? = some p1) fun y hy => ?_
          have hpre := (sums_sz (sh := (pls.take p).flatten ++ pl.take s) fun q hq => by
            rcases List.mem_append.1 hq with hq | hq
            · obtain ⟨l, hl1, hl2⟩ := List.mem_flatten.1 hq
              exact (hok l (List.mem_of_mem_take hl1) q hl2).1
            · exact (hok pl hplm q (List.mem_of_mem_take hq)).1).2 i k
          have hsz := hpre.fz
          have hszi : szS ((pls.take p).flatten ++ pl.take s).length ≤ 26580001 := by
            have : ((pls.take p).flatten ++ pl.take s).length ≤ 2000 := by simp only [List.length_append, List.length_take]; omega
            unfold szS; omega
          have hd := denL_pos hpok
          have hnx : psum (parts ((pls.take p).flatten ++ pl.take (s + 1))) i k = psum (parts ((pls.take p).flatten ++ pl.take s)) i k + if y = (i : Int) then valS sh.1 else 0 := by
            rw [List.take_add_one, hsh1, ← List.append_assoc, parts_append (_ ++ _)]
            simp only [Option.toList_some, parts, List.map_cons, List.map_nil]
            rw [psum_snoc]
            unfold ofPart
            simp [hy]
          refine Exists.elim (⟨szS ((pls.take p).flatten ++ pl.take s).length + 1000, by omega, by omega, by omega⟩ : ∃ N, szS ((pls.take p).flatten ++ pl.take s).length ≤ N ∧ 1000 ≤ N ∧ N ≤ 26581001) fun N hN => ?_
          have f1 := hsz.1.mono hN.1
          have f2 := hsz.2.mono hN.1
          have f3 : FZ N (numL sh.1) := (FZ.num hpok).mono hN.2.1
          have f4 : FZ N (denL sh.1 : Int) := (FZ.den hpok).mono hN.2.1
          have hNb := hN.2.2
          clear hszi hsz hpre hN
          refine Exists.elim (⟨_, rfl⟩ : ∃ q, q = psum (parts ((pls.take p).flatten ++ pl.take s)) i k) fun q hqe => ?_
          simp only [← hqe] at hq5 f1 f2 hnx
          have hadd : q + valS sh.1 = Rat.divInt (q.num * denL sh.1 + numL sh.1 * q.den) (q.den * denL sh.1) := add_divInt hd
          have hdp : (0 : Int) < q.den * denL sh.1 := Int.mul_pos (by have := q.den_pos; omega) hd
          try simp
          refine ZXt.join (by kernel_rfl) (fun F6 G6 H6 => Ext H5 H6 ∧ QN H6 (G6 7) (q + if y = (i : Int) then valS sh.1 else 0).num (q + if y = (i : Int) then valS sh.1 else 0).den) ?_ ?_
          · rintro K6 hK6 -
            simp [h8, h9]
            refine tx_elem (R := Row 93 2 true ShiftS) (xs := pls) (n := p) (a := pl) (e := 27) (sz := 1) (ag := false) (by simpa using hP5) (by simp [h8]) hpl1 (by simp) (by simp) (by simp) (by decide) ?_
            rintro p10 u10 hu10
            simp [h9]
            refine tx_shiftJ (sh := pl) (n := s) (a := sh) (by simpa using hu10) (by simp [h9]) hsh1 (by simp) ?_
            intro p11 q11 u11 hu11
            simp [h6]
            refine tx_elem (R := IR) (xs := sh.2) (n := k) (a := y) (e := 3) (sz := 1) (ag := false) (by simpa using hu11) (by simp [h6]) hy (by simp) (by simp) (by simp) (by decide) ?_
            rintro p12 u12 rfl
            simp [h5]
            refine Brt.mkD (fun hyi => ?_) (fun hyi => ?_)
            · simp [h8, h9]
              refine tx_elem (R := Row 93 2 true ShiftS) (xs := pls) (n := p) (a := pl) (e := 27) (sz := 1) (ag := false) (by simpa using hP5) (by simp [h8]) hpl1 (by simp) (by simp) (by simp) (by decide) ?_
              rintro p13 u13 hu13
              simp [h9]
              refine tx_shiftL (sh := pl) (n := s) (a := sh) (by simpa using hu13) (by simp [h9]) hsh1 (by simp) ?_
              intro p14 q14
              simp
              refine SWt.mk (bof_spec (hB pl hplm sh hshm) (hlen pl hplm sh hshm)) ?_
              rintro w15 H15 ⟨hx15, n15, d15, hq15, hnd⟩
              refine ⟨hx15, ?_⟩
              have e1 := (hnd hpok).1
              have e2 := (hnd hpok).2
              subst e1 e2
              try simp
              refine SWt.mk (baddq_spec (N := N) (hq5.ext hx15) hq15 f1 f2 f3 f4 (by omega)) ?_
              rintro w16 H16 ⟨hx16, hq16⟩
              try simp
              refine SWt.mk (blowestq_spec (N := N + N + 1) hadd hq16 hdp ((f1.mul f4).add (f3.mul f2)) ((f2.mul f4).mono (by omega)) (by omega)) ?_
              rintro w17 H17 ⟨hx17, hq17⟩
              try simp
              refine Putt.mk hq17.whole ?_
              try simp
              refine hK6 _ _ _ ⟨hx15.tr (hx16.tr hx17), ?_⟩
              rw [if_pos hyi]
              simpa using hq17
            · try simp
              refine hK6 _ _ _ ⟨Ext.refl _, ?_⟩
              rw [if_neg hyi, show q + 0 = q from Rat.add_zero q]
              simpa using hq5
          · rintro F6 G6 H6 ⟨hx6, hq6⟩
            simp at hq6
            simp [h9, hws]
            refine hK5 (pl.length - (s + 1)) _ _ _ (by omega) ⟨s + 1, rfl, by omega, by simp, hx5.tr hx6, ?_⟩
            rw [hnx]
            simpa using hq6
        · have hsl' : s = pl.length := by omega
          simp [h8, hwp]
          refine hK4 (pls.length - (p + 1)) _ _ _ (by omega) ⟨p + 1, rfl, by omega, by simp, hx5, ?_⟩
          rw [hfl]
          rw [hsl', List.take_length] at hq5
          simpa using hq5
      · rw [List.take_of_length_le (by omega)] at hq4
        simp [h5, h6]
        refine tx_elem (R := IRow) (xs := t) (n := i) (a := row) (e := 34) (sz := 1) (ag := false) (by simpa using Mono.ext (R := ITab) hI hx4) (by simp [h5]) hrow (by simp) (by simp) (by simp) (by decide) ?_
        rintro p10 u10 hu10
        simp [h6]
        refine tx_elem (R := IR) (xs := row) (n := k) (a := x) (e := 3) (sz := 1) (ag := false) (by simpa using hu10) (by simp [h6]) hx (by simp) (by simp) (by simp) (by decide) ?_
        rintro p11 u11 rfl
        simp
        refine SWt.mk (bwhole_spec (n := x) (by omega) (by omega)) ?_
        rintro w12 H12 ⟨hx12, hw12⟩
        refine ⟨hx12, ?_⟩
        try simp
        have hpre := (sums_sz (sh := pls.flatten) fun q hq => by
          obtain ⟨l, hl1, hl2⟩ := List.mem_flatten.1 hq
          exact (hok l hl1 q hl2).1).2 i k
        have hszi : szS pls.flatten.length ≤ 26580001 := by unfold szS; omega
        refine Exists.elim (⟨szS pls.flatten.length + 1000, by omega, by omega, by omega⟩ : ∃ N, szS pls.flatten.length ≤ N ∧ 1000 ≤ N ∧ N ≤ 26581001) fun N hN => ?_
        have f1 := hpre.fz.1.mono hN.1
        have f2 := hpre.fz.2.mono hN.1
        have f3 : FZ N x := (FZ.i64 (z := x) (by omega) (by omega)).mono (by omega)
        have f4 : FZ N 1 := FZ.small (by decide) (by omega)
        have hNb := hN.2.2
        clear hszi hpre hN
        refine Exists.elim (⟨_, rfl⟩ : ∃ q, q = psum (parts pls.flatten) i k) fun q hqe => ?_
        simp only [← hqe] at hq4 f1 f2
        refine SWt.mk (bcmpq0_spec (N := N) (q := q) (x := x) (hq4.ext hx12) hw12 f1 f2 f3 f4 (by omega)) ?_
        rintro _ H13 ⟨hx13, z, rfl, hz⟩
        have hx413 := hx4.tr (hx12.tr hx13)
        by_cases hqx' : q = ((x : Int) : Rat)
        · obtain rfl := hz.2 hqx'
          simp [h6, hwk]
          refine hK2 (m - (k + 1)) _ _ _ (by omega) ⟨k + 1, rfl, by omega, by simp, hx413, fun j hj => ?_⟩
          by_cases hjk : j < k
          · exact hal2 j hjk
          · obtain rfl : j = k := by omega
            rw [← hqe, hqx', hent]
        · have hz0 : ¬ z = 0 := fun h => hqx' (hz.1 h)
          simp [hz0, retOf]
          exact fail hx413 hlt hkl (by rw [← hqe, hent]; exact hqx')
    · have hkm : k = m := by omega
      simp [h5, hwi]
      refine hK (t.length - (i + 1)) _ _ _ (by omega) ⟨i + 1, rfl, by omega, by simp, hx2, fun j k' hj hk' => ?_⟩
      by_cases hji : j < i
      · exact hall j k' hji hk'
      · obtain rfl : j = i := by omega
        exact hal2 k' (by omega)
  · simp [retOf]
    exact hQ _ _ ⟨hx1, true, rfl, ⟨fun _ j k hj hk => hall j k (by omega) hk, fun _ => rfl⟩⟩
end Go.Sx
end
section
set_option maxRecDepth 8000
set_option maxHeartbeats 1000000
namespace Go.Sx
attribute [-simp] tx_ia tx_ln tx_ix
attribute [-simp] bd_42
theorem rdec_all (n : Nat) : (∀ c ∈ rdec n, Digit c) ∧ dval (rdec n).reverse = n ∧ (0 < n → rdec n ≠ [] ∧ (rdec n).getLast? ≠ some 48) := by
  induction n using Nat.strongRecOn with
  | _ n ih =>
    by_cases h : n = 0
    · subst h
      rw [rdec_zero]
      simp [dval]
    · obtain ⟨i1, i2, i3⟩ := ih (n / 10) (by omega)
      rw [rdec_pos (by omega)]
      refine ⟨fun c hc => ?_, ?_, fun _ => ⟨by simp, ?_⟩⟩
      · rcases List.mem_cons.1 hc with hc | hc
        · subst hc; unfold Digit; omega
        · exact i1 c hc
      · rw [List.reverse_cons, dval_snoc, i2]
        omega
      · by_cases h1 : n / 10 = 0
        · rw [h1, rdec_zero]
          simp
          omega
        · have := i3 (by omega)
          rw [List.getLast?_cons]
          cases hg : (rdec (n / 10)).getLast? with
          | none => exact absurd (List.getLast?_eq_none_iff.1 hg) this.1
          | some c =>
            rw [hg] at this
            simp
            exact fun h => this.2 (by rw [h])
theorem dec_digit (n : Nat) : ∀ c ∈ dec n, Digit c := by
  unfold dec
  split
  · intro c hc; simp at hc; subst hc; decide
  · intro c hc; exact (rdec_all n).1 c (List.mem_reverse.1 hc)
theorem dec_val (n : Nat) : dval (dec n) = n := by
  unfold dec
  split
  · rename_i h; rw [h]; rfl
  · exact (rdec_all n).2.1
theorem dec_ne (n : Nat) : dec n ≠ [] := by
  unfold dec
  split
  · simp
  · rename_i h
    have := ((rdec_all n).2.2 (by omega)).1
    simpa using this
theorem dec_ok {n : Nat} (h : (dec n).length ≤ 4000) : DigsOk (dec n) := by
  refine ⟨dec_digit n, dec_ne n, ?_, h⟩
  rintro ⟨h1, h2⟩
  unfold dec at h1 h2
  split at h1
  · rename_i h0
    rw [if_pos h0] at h2
    simp at h2
  · rename_i h0
    rw [List.head?_reverse] at h1
    exact ((rdec_all n).2.2 (by omega)).2 h1
theorem cutL_here {c : Nat} {a : List Nat} (b : List Nat) (h : c ∉ a) : cutL c (a ++ c :: b) = (a, some b) := by
  induction a with
  | nil => simp [cutL]
  | cons x a ih =>
    have h1 : x ≠ c := fun e => h (by simp [e])
    have h2 := ih fun e => h (by simp [e])
    simp [cutL, h1, h2]
theorem cutL_gone {c : Nat} {a : List Nat} (h : c ∉ a) : cutL c a = (a, none) := by
  induction a with
  | nil => simp [cutL]
  | cons x a ih =>
    have h1 : x ≠ c := fun e => h (by simp [e])
    have h2 := ih fun e => h (by simp [e])
    simp [cutL, h1, h2]
theorem numStr_parse {q : Rat} (h : NumOk q) : ParseOk (numStr q) ∧ numL (numStr q) = q.num ∧ denL (numStr q) = q.den := by
  have hA : 47 ∉ ((if q.num < 0 then [45] else []) ++ dec q.num.natAbs) := by
    intro hm
    rcases List.mem_append.1 hm with hm | hm
    · split at hm <;> simp at hm
    · have := dec_digit _ _ hm
      unfold Digit at this
      omega
  have hcut : cutL 47 (numStr q) = ((if q.num < 0 then [45] else []) ++ dec q.num.natAbs, if q.den = 1 then none else some (dec q.den)) := by
    unfold numStr
    by_cases hd : q.den = 1
    · rw [if_pos hd, if_pos hd, List.append_nil]
      exact cutL_gone hA
    · rw [if_neg hd, if_neg hd]
      exact cutL_here _ hA
  have hover : overL (numStr q) = (if q.num < 0 then [45] else []) ++ dec q.num.natAbs := by unfold overL; rw [hcut]
  have hunder : underL (numStr q) = if q.den = 1 then none else some (dec q.den) := by unfold underL; rw [hcut]
  have hhd : (dec q.num.natAbs).head? ≠ some 45 := by
    intro hh
    have := dec_digit _ _ (List.mem_of_mem_head? hh)
    unfold Digit at this
    omega
  have hmin : minusL (numStr q) = decide (q.num < 0) := by
    unfold minusL
    rw [hover]
    by_cases hn : q.num < 0
    · simp [hn]
    · simp only [hn, if_false, List.nil_append]
      simp [hhd]
  have hdig : digsL (numStr q) = dec q.num.natAbs := by
    unfold digsL tailL
    rw [hover]
    by_cases hn : q.num < 0
    · simp [hn]
    · simp only [hn, if_false, List.nil_append]
      rw [if_neg hhd]
  have hden : denL (numStr q) = q.den := by
    unfold denL
    rw [hunder]
    by_cases hd : q.den = 1
    · simp [hd]
    · simp [hd, dec_val]
  have hnum : numL (numStr q) = q.num := by
    unfold numL
    rw [hmin, hdig, dec_val]
    by_cases hn : q.num < 0
    · simp [hn]; omega
    · simp [hn]; omega
  refine ⟨⟨?_, ?_, ?_, ?_⟩, hnum, hden⟩
  · rw [hdig]; exact dec_ok h.1
  · intro u hu
    rw [hunder] at hu
    split at hu
    · cases hu
    · rename_i hd
      obtain rfl := Option.some.inj hu
      have hp := q.den_pos
      rw [dec_val]
      refine ⟨dec_ok ?_, by omega⟩
      rcases h.2 with h | h
      · exact absurd h hd
      · exact h
  · rw [hmin, hdig, dec_val]
    rintro ⟨h1, h2⟩
    have := of_decide_eq_true h1
    omega
  · right
    rw [hnum, hden]
    exact q.reduced
theorem numStr_bytes (q : Rat) : Bytes (numStr q) := by
  unfold numStr
  intro x hx
  rcases List.mem_append.1 hx with hx | hx
  · rcases List.mem_append.1 hx with hx | hx
    · split at hx <;> simp at hx
      omega
    · exact dec_bytes _ x hx
  · split at hx
    · cases hx
    · rcases List.mem_cons.1 hx with hx | hx
      · omega
      · exact dec_bytes _ x hx
theorem numStr_val {q : Rat} (h : NumOk q) : valS (numStr q) = q := by
  obtain ⟨h1, h2, h3⟩ := numStr_parse h
  unfold valS
  rw [h2, h3, Rat.num_divInt_den]
theorem parts_numStr {ps : List (Rat × List Int)} (h : ∀ p ∈ ps, NumOk p.1) : parts (ps.map fun p => (numStr p.1, p.2)) = ps := by
  unfold parts
  rw [List.map_map]
  conv => rhs; rw [← List.map_id ps]
  apply List.map_congr_left
  intro p hp
  simp [numStr_val (h p hp)]
end Go.Sx
end
section
set_option maxRecDepth 8000
set_option maxHeartbeats 1000000
namespace Go.Sx
open Go.Proofs
open Go.Proofs.Tryz (prog)
attribute [-simp] tx_ia tx_ln tx_ix
attribute [-simp] bd_42
def shs (ps : List (Rat × List Int)) : List (List Nat × List Int) := ps.map fun p => (numStr p.1, p.2)
structure PlanF (t : List (List Int)) (ps : List (Rat × List Int)) : Prop where
  ok : ∀ p ∈ shs ps, ShOk t.length (t[0]?.getD []).length p
  one : ∀ p ∈ shs ps, ParseOk p.1 ∧ denL p.1 = 1
  parts : parts (shs ps) = ps
  few : (shs ps).length ≤ (t.length + (t[0]?.getD []).length) * (t.length + (t[0]?.getD []).length)
  few2 : (shs ps).length ≤ 256
  sum : ∀ i k, i < t.length → k < (t[0]?.getD []).length → psum ps i k = ((entI t i k : Int) : Rat)
  len : plen ps = (((boundQ t).1 : Int) : Rat)
  bytes : ∀ p ∈ shs ps, Bytes p.1
  short : ∀ p ∈ shs ps, p.1.length < 4611686018427387904 ∧ p.2.length < 65536
theorem PlanF.mk' {t : List (List Int)} {ps : List (Rat × List Int)} (hv : ValidT t) (h : PlanR t.length (t[0]?.getD []).length (ent (qt t)) (((boundQ t).1 : Int) : Rat) ps) (hm : ∀ p ∈ ps, MulOf 1 p.1) : PlanF t ps := by
  have htop := topQ_int (t := t) rfl rfl hv.small (by have := hv.2.1; omega)
  have hpos := plen_pos fun p hp => (h.shifts p hp).1
  have hint : ∀ p ∈ ps, ∃ z : Int, p.1 = (z : Rat) ∧ 0 < z ∧ z ≤ 1000000000 := fun p hp => by
    obtain ⟨z, hz⟩ := hm p hp
    have e : p.1 = (z : Rat) := by
      rw [← hz]
      have : ((1 : Nat) : Rat) = 1 := rfl
      rw [this, Rat.mul_one]
    refine ⟨z, e, ?_, ?_⟩
    · have := (h.shifts p hp).1
      rw [e] at this
      exact_mod_cast this
    · have := hpos.2 p hp
      rw [h.len, e] at this
      have : z ≤ (boundQ t).1 := by exact_mod_cast this
      have := htop.2
      omega
  have hnum : ∀ p ∈ ps, NumOk p.1 := fun p hp => by
    obtain ⟨z, hz, h0, h1⟩ := hint p hp
    rw [hz]
    exact (SzQ.int (N := 64) (by omega) (by decide)).numOk (by decide)
  have hpar := parts_numStr hnum
  have hall : ∀ p ∈ shs ps, ∃ q ∈ ps, p = (numStr q.1, q.2) := fun p hp => by
    unfold shs at hp
    rw [List.mem_map] at hp
    obtain ⟨q, hq, rfl⟩ := hp
    exact ⟨q, hq, rfl⟩
  refine ⟨fun p hp => ?_, fun p hp => ?_, hpar, ?_, ?_, fun i k hi hk => ?_, h.len, fun p hp => ?_, fun p hp => ?_⟩
  · obtain ⟨q, hq, rfl⟩ := hall p hp
    have h1 := numStr_parse (hnum q hq)
    have h2 := h.shifts q hq
    exact ⟨⟨h1.1, by rw [numStr_val (hnum q hq)]; exact h2.1, h2.2.len⟩, h2.2⟩
  · obtain ⟨q, hq, rfl⟩ := hall p hp
    have h1 := numStr_parse (hnum q hq)
    obtain ⟨z, hz, -⟩ := hint q hq
    refine ⟨h1.1, ?_⟩
    rw [h1.2.2, hz, Rat.den_intCast]
  · unfold shs
    rw [List.length_map]
    exact h.few
  · unfold shs
    rw [List.length_map]
    have h1 := hv.2.1
    have h2 := hv.2.2.2.1
    exact Nat.le_trans h.few (Nat.mul_le_mul (show _ ≤ 16 by omega) (show _ ≤ 16 by omega))
  · rw [h.sum i k hi hk, qt_ent]
    rfl
  · obtain ⟨q, hq, rfl⟩ := hall p hp
    exact numStr_bytes _
  · obtain ⟨q, hq, rfl⟩ := hall p hp
    have h1 := parse_len (numStr_parse (hnum q hq)).1
    have h2 := (h.shifts q hq).2.len
    have h3 := hv.2.2.2.1
    refine ⟨?_, ?_⟩
    · show (numStr q.1).length < _
      omega
    · show q.2.length < _
      omega
theorem PlanF.does {t : List (List Int)} {ps : List (Rat × List Int)} (h : PlanF t ps) : DoesOk t (shs ps) := by
  refine ⟨⟨h.ok, by have := h.few2; omega⟩, fun j k hj hk => ?_⟩
  rw [h.parts, h.sum j k hj hk, qt_ent]
  rfl
section
variable {P : Program} {r : List XOp} {F : Fr} {H : SHeap} {Q : Fr → SHeap → Prop} {α : Type}
theorem tx_bs2 {d t e : Nat} {x y : Operand} {z : Value} {R : SHeap → Value → α → Prop} {a b : α} {tk : Tok (bs d t 2 [(0, x), (1, y)] :: r) Q} (ha : ∀ H', Ext H H' → R H' (fev F x) a) (hb : ∀ H', Ext H H' → R H' (fev F y) b) (ht : P.underlying t = some (.slice e)) (hs : sz? P e = some 1) (hz : zero? P e = some z) (hzf : flat z = true) (hzs : z.cells.size = 1)
    (ho : fillP (fun i => some (i * 1, 1)) (made z (2 * 1)) [(0, fev F x), (1, fev F y)] = some [fev F x, fev F y]) (K : ∀ v H', Row e 1 false R H' v [a, b] → Ext H H' → XWt P r Q .mk (upd F d v) H') : XWt P (bs d t 2 [(0, x), (1, y)] :: r) Q tk F H := by
  have hx : Ext H (H ++ [.own e false [fev F x, fev F y]]) := (Ext.refl H).snoc _ _ _
  refine tx_bs ht hs hz hzf hzs (by decide) (by decide) (by decide) ho rfl (K _ _ ⟨[fev F x, fev F y], Ow.sl (k := 0) ⟨rfl, .inr ⟨H.length, 0, 2, false, [fev F x, fev F y], rfl, by omega, Nat.le_refl _, Nat.zero_le _, by simp, by simp, by simp⟩⟩, fun i u hi => ?_⟩ hx)
  match i with
  | 0 => simp at hi; subst hi; simpa [elV] using ha _ hx
  | 1 => simp at hi; subst hi; simpa [elV] using hb _ hx
  | n + 2 => simp at hi
end
def t0 : List (List Int) := [[2, 1], [1, 2]]
theorem t0_valid : ValidT t0 := by decide
theorem t0_bound : boundQ t0 = (3, 0, 0) := by
  have h := boundI (t := t0) (m := 2) rfl (by decide) (by decide)
  have h2 : BoundI (t0.map List.sum) ((turnI 2 t0).map List.sum) 3 0 0 := by
    have e1 : t0.map List.sum = [3, 3] := by decide
    have e2 : (turnI 2 t0).map List.sum = [3, 3] := by decide
    rw [e1, e2]
    exact ⟨by simp, by simp, .inl ⟨rfl, rfl, fun i x hi => by omega⟩⟩
  obtain ⟨h3, h4, h5⟩ := h.uniq h2
  exact Prod.ext h3 (Prod.ext h4 h5)
theorem numStr_int (z : Int) (h : 0 ≤ z) : numStr ((z : Int) : Rat) = dec z.natAbs := by
  unfold numStr
  rw [Rat.num_intCast, Rat.den_intCast, if_neg (by omega)]
  simp
theorem lit3 : ({ data := #[51] } : ByteArray) = bs' [51] := rfl
theorem lives_spec {H : SHeap} : SW prog 12 [] H (fun u H1 => Ext H H1 ∧ u = .bool true) := by
  refine SW.cps fun Q hQ => ?_
  have hb := t0_bound
  apply into_law_lives (by simp)
  simp [Z_law_lives]
  refine tx_bs2 (e := 3) (z := .int .i64 0) (R := IR) (a := 2) (b := 1) (fun _ _ => rfl) (fun _ _ => rfl) (by simp) (by simp) (by rfl) (by rfl) (by rfl) (by rfl) ?_
  intro u1 H1 hu1 hx1
  refine tx_bs2 (e := 3) (z := .int .i64 0) (R := IR) (a := 1) (b := 2) (fun _ _ => rfl) (fun _ _ => rfl) (by simp) (by simp) (by rfl) (by rfl) (by rfl) (by rfl) ?_
  intro u2 H2 hu2 hx2
  have hu1' : IRow H2 u1 [2, 1] := Mono.ext (R := IRow) hu1 hx2
  refine Exists.elim (Row.len hu1') fun a1 he1 => Exists.elim he1 fun c1 he1 => ?_
  refine Exists.elim (Row.len hu2) fun a2 he2 => Exists.elim he2 fun c2 he2 => ?_
  refine tx_bs2 (e := 34) (z := .slice none 0 0) (R := IRow) (a := [2, 1]) (b := [1, 2]) (fun H' hx => by simpa using Mono.ext (R := IRow) hu1' hx) (fun H' hx => by simpa using Mono.ext (R := IRow) hu2 hx) (by simp) (by simp) (by rfl) (by rfl) (by rfl) (by simp [he1, he2]; rfl) ?_
  intro u3 H3 hu3 hx3
  have hI : ITab H3 u3 t0 := hu3
  have hx03 := hx1.tr (hx2.tr hx3)
  simp
  refine SWt.mk (bound_spec (Row.iss hI) (by decide) (by decide)) ?_
  rintro u4 H4 ⟨hx4, hv4, -⟩
  have e4 := hv4 t0_valid
  rw [hb] at e4
  subst e4
  have hI4 := Mono.ext (R := ITab) hI hx4
  simp
  refine SWt.mk (plan_spec (Row.iss hI4) (by decide) (by decide)) ?_
  rintro u5 H5 ⟨hx5, hv5, -⟩
  refine Exists.elim (hv5 t0_valid) fun w5 h5 => Exists.elim h5 fun ps h5 => ?_
  have e5 := h5.1
  subst e5
  have hF := PlanF.mk' t0_valid h5.2.1 h5.2.2.1
  have hrow := h5.2.2.2
  have hI5 := Mono.ext (R := ITab) hI4 hx5
  simp
  refine SWt.mk (does_spec (Row.iss hI5) (by decide) (by decide) hrow hF.bytes hF.short (by have := hF.few2; exact Nat.le_trans this (by decide))) ?_
  rintro u6 H6 ⟨hx6, hv6, -, -⟩
  have e6 := hv6 t0_valid hF.does
  have hpl : plen (parts (shs ps)) = ((3 : Int) : Rat) := by rw [hF.parts, hF.len, hb]
  have hns : numStr ((3 : Int) : Rat) = [51] := by
    rw [numStr_int 3 (by decide)]
    simp [dec, rdec]
  have hok : NumOk ((3 : Int) : Rat) := (SzQ.int (N := 64) (by decide) (by decide)).numOk (by decide)
  change u6 = if NumOk (plen (parts (shs ps))) then Value.tuple #[.string (bs' (numStr (plen (parts (shs ps))))), .int .i64 0] else _ at e6
  rw [hpl, if_pos hok, hns] at e6
  subst e6
  simp [tzx_box, lit3, retOf]
  exact hQ _ _ ⟨hx03.tr (hx4.tr (hx5.tr hx6)), rfl⟩
theorem cutT_len (x : List (List Int)) : (cutT x).length ≤ 9 ∧ ∀ r ∈ cutT x, r.length ≤ 9 := by
  unfold cutT
  refine ⟨by simp; omega, fun r hr => ?_⟩
  rw [List.mem_map] at hr
  obtain ⟨r', -, rfl⟩ := hr
  simp; omega
theorem ZXt.seqK {P : Program} {a b : ZCode} {Q : SExit → Fr → Fr → SHeap → Prop} {tk : Tok (ZCode.seq a b) Q} {F G : Fr} {H : SHeap} (h : ∀ K : Fr → Fr → SHeap → Prop, (∀ F1 G1 H1, ZXt P b Q .mk F1 G1 H1 → K F1 G1 H1) → ZXt P a (seqZ K Q) .mk F G H) : ZXt P (.seq a b) Q tk F G H :=
  h _ fun _ _ _ h => h
theorem whS {H : SHeap} {v : Value} {xs : List (List Nat × List Int)} (h : Row 93 2 true ShiftS H v xs) : Whole prog 27 v := by
  obtain ⟨a, c, rfl⟩ := Row.len h
  exact ⟨by rfl, by rfl, by simp [isAg]⟩
theorem shopPlans_spec {v : Value} {x : List (List Int)} {H : SHeap} (hI : ITab H v x) :
    SW prog 3 [v] H (fun u H1 => Ext H H1 ∧ u = .bool true) := by
  refine SW.cps fun Q hQ => ?_
  obtain ⟨t, ht⟩ : ∃ t, t = cutT x := ⟨_, rfl⟩
  have htl := (cutT_len x).1
  have htr := (cutT_len x).2
  rw [← ht] at htl htr
  apply into_law_ShopPlans (by simp)
  simp only [Z_law_ShopPlans]
  refine ZXt.seqK fun K1 hK1 => ?_
  simp
  refine hK1 _ _ _ ?_
  clear hK1
  refine ZXt.seqK fun K1 hK1 => ?_
  simp
  refine SWt.mk (table_spec hI) ?_
  simp only [← ht]
  rintro w1 H1 ⟨hx1, hT1⟩
  simp
  refine hK1 _ _ _ ?_
  clear hK1
  refine ZXt.seqK fun K1 hK1 => ?_
  simp
  refine SWt.mk (bound_spec (Row.iss hT1) (by omega) fun r hr => by have := htr r hr; omega) ?_
  rintro u2 H2 ⟨hx2, hv2, hn2⟩
  have hT2 := Mono.ext (R := ITab) hT1 hx2
  by_cases hv : ValidT t
  · have e2 := hv2 hv
    subst e2
    simp
    refine hK1 _ _ _ ?_
    clear hK1
    refine ZXt.seqK fun K1 hK1 => ?_
    simp
    refine SWt.mk (plan_spec (Row.iss hT2) (by omega) fun r hr => by have := htr r hr; omega) ?_
    rintro u3 H3 ⟨hx3, hv3, hn3⟩
    refine Exists.elim (hv3 hv) fun w3 h3 => Exists.elim h3 fun ps h3 => ?_
    have e3 := h3.1
    subst e3
    have hF := PlanF.mk' hv h3.2.1 h3.2.2.1
    have hrow : Row 93 2 true ShiftS H3 w3 (shs ps) := h3.2.2.2
    have hT3 := Mono.ext (R := ITab) hT2 hx3
    simp
    refine hK1 _ _ _ ?_
    clear hK1
    refine ZXt.seqK fun K1 hK1 => ?_
    simp
    refine SWt.mk (tableR_spec hT3 (by omega) fun r hr => by have := htr r hr; omega) ?_
    rintro _ _ ⟨rfl, rfl⟩
    simp [hv]
    refine hK1 _ _ _ ?_
    clear hK1
    refine ZXt.seqK fun K1 hK1 => ?_
    simp
    refine SWt.mk (boundR_spec hT3 hv) ?_
    rintro _ H4 ⟨hx4, rfl⟩
    simp
    refine hK1 _ _ _ ?_
    clear hK1
    have hT4 := Mono.ext (R := ITab) hT3 hx4
    have hrow4 := Mono.ext (R := Row _ _ _ ShiftS) hrow hx4
    refine ZXt.seqK fun K1 hK1 => ?_
    simp only [tzx_seq]
    refine ZXt.join (by kernel_rfl) (fun F5 G5 H5 => Ext H4 H5 ∧ F5 91 = .bool false) ?_ ?_
    · rintro K2 hK2 -
      simp
      refine SWt.mk lives_spec ?_
      rintro _ H5 ⟨hx5, rfl⟩
      simp
      exact hK2 _ _ _ ⟨hx5, by simp⟩
    rintro F5 G5 H5 ⟨hx5, h91⟩
    simp only [mix_ap] at h91
    simp at h91
    simp [h91]
    refine hK1 _ _ _ ?_
    clear hK1
    have hT5 := Mono.ext (R := ITab) hT4 hx5
    have hrow5 := Mono.ext (R := Row _ _ _ ShiftS) hrow4 hx5
    have v1 := hv.1
    have v2 := hv.2.1
    have v3 := hv.2.2.1
    have v4 := hv.2.2.2.1
    refine Exists.elim (⟨_, gtE (show 0 < t.length by omega)⟩ : ∃ p, t[0]? = some p) fun row0 hrow0 => ?_
    refine Exists.elim (⟨_, rfl⟩ : ∃ m, m = (t[0]?.getD []).length) fun m hm => ?_
    refine Exists.elim (⟨_, rfl⟩ : ∃ n, n = t.length) fun n hn => ?_
    have hr0 : row0.length = m := by rw [hm, hrow0]; rfl
    rw [← hm] at v3 v4
    rw [← hn] at v1 v2
    have hsz : IntKind.i64.wrap ((n : Int) + (m : Int)) = ((n + m : Nat) : Int) := by rw [w64 (by omega) (by omega)]; omega
    refine ZXt.seqK fun K1 hK1 => ?_
    simp
    refine tx_lnR (R := IRow) (xs := t) (by simpa using hT5) (by simp) ?_
    simp only [← hn]
    try simp
    refine tx_elem (R := IRow) (xs := t) (n := 0) (a := row0) (e := 34) (sz := 1) (ag := false) (by simpa using hT5) (by simp) hrow0 (by simp) (by simp) (by simp) (by decide) ?_
    rintro p6 u6 hu6
    try simp
    refine tx_lnR (R := IR) (xs := row0) (by simpa using hu6) (by simp) ?_
    simp only [hr0]
    simp [hsz]
    refine hK1 _ _ _ ?_
    clear hK1
    refine ZXt.seqK fun K1 hK1 => ?_
    simp only [tzx_seq]
    refine ZXt.join (by kernel_rfl) (fun F7 G7 H7 => Ext H5 H7 ∧ F7 135 = .bool false) ?_ ?_
    · rintro K2 hK2 -
      simp
      refine tx_lnR (R := IRow) (xs := t) (by simpa using hT5) (by simp) ?_
      simp only [← hn]
      try simp
      refine tx_elem (R := IRow) (xs := t) (n := 0) (a := row0) (e := 34) (sz := 1) (ag := false) (by simpa using hT5) (by simp) hrow0 (by simp) (by simp) (by simp) (by decide) ?_
      rintro p7 u7 hu7
      try simp
      refine tx_lnR (R := IR) (xs := row0) (by simpa using hu7) (by simp) ?_
      simp only [hr0]
      try simp
      refine SWt.mk (scheduleR_spec (n := n) (m := m) hrow5 hF.bytes hF.short (by have := hF.few2; omega) (by omega) (by omega)) ?_
      rintro _ H6 ⟨hx6, b, rfl, hb⟩
      have hb1 := hb.2 (by rw [hn, hm]; exact hF.ok)
      subst hb1
      have hrow6 := Mono.ext (R := Row _ _ _ ShiftS) hrow5 hx6
      simp
      refine SWt.mk (wholeR_spec hrow6 hF.bytes (fun p hp => (hF.short p hp).1) (by have := hF.few2; omega) hF.one) ?_
      rintro _ H7 ⟨hx7, rfl⟩
      have hrow7 := Mono.ext (R := Row _ _ _ ShiftS) hrow6 hx7
      have hT7 := Mono.ext (R := ITab) hT5 (hx6.tr hx7)
      simp
      refine tx_lnR (R := ShiftS) (xs := shs ps) (by simpa using hrow7) (by simp) ?_
      have hsq : (n + m) * (n + m) ≤ 16 * 16 := Nat.mul_le_mul (by omega) (by omega)
      have hfew := hF.few
      rw [← hn, ← hm] at hfew
      refine Exists.elim (⟨_, rfl⟩ : ∃ q, q = (n + m) * (n + m)) fun q hq => ?_
      rw [← hq] at hsq hfew
      have hw2 : IntKind.i64.wrap (((n : Int) + (m : Int)) * ((n : Int) + (m : Int))) = (q : Int) := by
        have : ((n : Int) + (m : Int)) * ((n : Int) + (m : Int)) = (q : Int) := by rw [hq]; simp
        rw [this, w64 (by omega) (by omega)]
      have hngt : ¬ ((q : Int) < ((shs ps).length : Int)) := by omega
      simp [hw2, hngt]
      refine tx_bs1R (e := 27) (sz := 1) (ag := false) (z := .slice none 0 0) (R := Row 93 2 true ShiftS) (a := shs ps) (fun H' hx => by simpa using Mono.ext (R := Row 93 2 true ShiftS) hrow7 hx) (by simpa using whS hrow7) (by simp) (by simp) (by simp) (by rfl) (by rfl) (by rfl) (by decide) (by decide) ?_
      intro w8 H8 hO8 hx8
      have hT8 := Mono.ext (R := ITab) hT7 hx8
      have hrow8 := Mono.ext (R := Row _ _ _ ShiftS) hrow7 hx8
      simp
      refine SWt.mk (doesR_spec (pls := [shs ps]) hT8 hv hO8.row (by simpa using hF.bytes) (by simpa using fun a b h => (hF.short _ h).1) (by simp) (by have := hF.few2; simp; omega) (by simpa using fun a b h => ⟨(hF.ok _ h).1.1, (hF.ok _ h).1.2.2⟩)) ?_
      rintro _ H9 ⟨hx9, b, rfl, hb⟩
      have hb1 := hb.2 (fun i k hi hk => by
        have e : ([shs ps] : List (List (List Nat × List Int))).flatten = shs ps := by simp
        rw [e, hF.parts]
        exact hF.sum i k hi hk)
      subst hb1
      have hrow9 := Mono.ext (R := Row _ _ _ ShiftS) hrow8 hx9
      simp
      refine SWt.mk (lengthR_spec hrow9 hF.bytes (fun p hp => (hF.short p hp).1) (by have := hF.few2; omega) (fun p hp => (hF.one p hp).1)) ?_
      have htop := (topQ_int (t := t) rfl rfl hv.small (by omega)).2
      have hpl : plen (parts (shs ps)) = (((boundQ t).1 : Int) : Rat) := by rw [hF.parts, hF.len]
      rw [hpl]
      rintro w10 H10 ⟨hx10, hw10⟩
      simp
      refine SWt.mk (bwhole_spec (n := (boundQ t).1) (by omega) (by omega)) ?_
      rintro w11 H11 ⟨hx11, hw11⟩
      simp
      refine SWt.mk (bcmpq0_spec (N := 5) (q := (((boundQ t).1 : Int) : Rat)) (x := (boundQ t).1) (hw10.ext hx11) hw11 (by rw [Rat.num_intCast]; exact FZ.i64 (by omega) (by omega)) (by rw [Rat.den_intCast]; exact FZ.small (by decide) (by decide)) (FZ.i64 (by omega) (by omega)) (FZ.small (by decide) (by decide)) (by decide)) ?_
      rintro _ H12 ⟨hx12, z, rfl, hz⟩
      have hz1 := hz.2 rfl
      subst hz1
      simp
      exact hK2 _ _ _ ⟨hx6.tr (hx7.tr (hx8.tr (hx9.tr (hx10.tr (hx11.tr hx12))))), by simp⟩
    rintro F7 G7 H7 ⟨hx7, h135⟩
    simp only [mix_ap] at h135
    simp at h135
    simp [h135]
    refine hK1 _ _ _ ?_
    clear hK1
    have hT7 := Mono.ext (R := ITab) hT5 hx7
    have hrow7 := Mono.ext (R := Row _ _ _ ShiftS) hrow5 hx7
    have htop := (topQ_int (t := t) rfl rfl hv.small (by omega)).2
    have hpl : plen (parts (shs ps)) = (((boundQ t).1 : Int) : Rat) := by rw [hF.parts, hF.len]
    have hok : NumOk (((boundQ t).1 : Int) : Rat) := (SzQ.int (N := 64) (by omega) (by decide)).numOk (by decide)
    refine ZXt.seqK fun K1 hK1 => ?_
    simp
    refine SWt.mk (does_spec (Row.iss hT7) (by omega) (fun r hr => by have := htr r hr; omega) hrow7 hF.bytes hF.short (by have := hF.few2; omega)) ?_
    rintro u8 H8 ⟨hx8, hv8, -, -⟩
    have e8 := hv8 hv hF.does
    rw [hpl, if_pos hok] at e8
    subst e8
    simp
    refine hK1 _ _ _ ?_
    clear hK1
    refine ZXt.seqK fun K1 hK1 => ?_
    simp
    refine SWt.mk (bwhole_spec (n := (boundQ t).1) (by omega) (by omega)) ?_
    rintro w9 H9 ⟨hx9, hw9⟩
    simp
    refine SWt.mk (bnum_spec (N := 5) hw9 (by omega) (FZ.i64 (by omega) (by omega)) (FZ.small (by decide) (by decide)) (by decide)) ?_
    rintro u10 H10 ⟨hx10, e10⟩
    rw [divInt_one, if_pos hok] at e10
    subst e10
    simp
    refine hK1 _ _ _ ?_
    clear hK1
    simp [tzx_box, retOf]
    exact hQ _ _ ⟨hx1.tr (hx2.tr (hx3.tr (hx4.tr (hx5.tr (hx7.tr (hx8.tr (hx9.tr hx10))))))), rfl⟩
  · have e2 := hn2 hv
    subst e2
    simp
    refine hK1 _ _ _ ?_
    clear hK1
    refine ZXt.seqK fun K1 hK1 => ?_
    simp
    refine SWt.mk (plan_spec (Row.iss hT2) (by omega) fun r hr => by have := htr r hr; omega) ?_
    rintro u3 H3 ⟨hx3, hv3, hn3⟩
    have e3 := hn3 hv
    subst e3
    have hT3 := Mono.ext (R := ITab) hT2 hx3
    simp
    refine hK1 _ _ _ ?_
    clear hK1
    refine ZXt.seqK fun K1 hK1 => ?_
    simp
    refine SWt.mk (tableR_spec hT3 (by omega) fun r hr => by have := htr r hr; omega) ?_
    rintro _ _ ⟨rfl, rfl⟩
    simp [hv, tzx_box]
    refine tx_lnR (R := ShiftS) (xs := []) (by simpa using Row.nil 93 2 true ShiftS _) (by simp) ?_
    simp
    refine SWt.mk lives_spec ?_
    rintro _ H5 ⟨hx5, rfl⟩
    simp [retOf]
    exact hQ _ _ ⟨hx1.tr (hx2.tr (hx3.tr hx5)), rfl⟩
end Go.Sx
end
section
set_option maxRecDepth 8000
set_option maxHeartbeats 1000000
namespace Go.Sx
open Go.Proofs
open Go.Proofs.Tryz (prog)
open Go.RowKit
def RowM (w : World) (u : Value) (l : List Int) : Prop := (u = .slice none 0 0 ∧ l = []) ∨ ∃ x cap, u = .slice (some x) l.length cap ∧ l.length ≤ cap ∧ ∀ i, i < l.length → w.cell? (x.add i) = some (.int .i64 (l.getD i 0))
def TabM (w : World) (v : Value) (t : List (List Int)) : Prop := (v = .slice none 0 0 ∧ t = []) ∨ ∃ x cap, v = .slice (some x) t.length cap ∧ t.length ≤ cap ∧ ∃ V : Nat → Value, ∀ i, i < t.length → w.cell? (x.add i) = some (V i) ∧ RowM w (V i) (t.getD i [])
theorem cell_lt {w : World} {a : Addr} {v : Value} (h : w.cell? a = some v) : a.block < w.heap.size := by
  rcases Nat.lt_or_ge a.block w.heap.size with h1 | h1
  · exact h1
  · unfold World.cell? at h
    rw [Array.getElem?_eq_none h1] at h
    simp at h
theorem cells_at {w : World} {x : Addr} {n : Nat} (f : Nat → Value) (hn : 0 < n) (h : ∀ i, i < n → w.cell? (x.add i) = some (f i)) : x.block < w.heap.size ∧ ∀ i, i < n → w.cell? ⟨x.block, x.off + i, none⟩ = some (f i) := by
  have h0 := h 0 hn
  have e0 : x.add 0 = x := by simp [Addr.add]
  rw [e0] at h0
  have hsp := World.cell?_spot h0
  refine ⟨cell_lt h0, fun i hi => ?_⟩
  have := h i hi
  obtain ⟨b, o, s⟩ := x
  simp only at hsp
  subst hsp
  by_cases hi0 : i = 0
  · subst hi0; simpa [Addr.add] using this
  · simpa [Addr.add, hi0] using this
structure RowS (w : World) (base b : Nat) (k : Option Bk) (s u : Value) (l : List Int) : Prop where
  vr : ∀ μ : Mu, μ b = k → VR μ s u
  row : ∀ H : SHeap, H[b]? = some (.ro 3 (l.map (Value.int .i64))) → IRow H s l
  blk : ∀ k', k = some k' → ∀ μ : Mu, BlkR prog base μ w k' (.ro 3 (l.map (Value.int .i64)))
theorem info_int : ∃ inf, (prog).info? 3 = some inf ∧ inf.size = 1 := ⟨_, by rfl, by rfl⟩
theorem info_row : ∃ inf, (prog).info? 34 = some inf ∧ inf.size = 1 := ⟨_, by rfl, by rfl⟩
theorem RowM.rs {w : World} {base b : Nat} {u : Value} {l : List Int} (h : RowM w u l) (hb : b ≠ 0) : ∃ p : Option Bk × Value, RowS w base b p.1 p.2 u l := by
  rcases h with ⟨rfl, rfl⟩ | ⟨x, cap, rfl, hl, hc⟩
  · exact ⟨(none, .slice none 0 0), fun μ _ => .nils, fun H _ => Row.nil _ _ _ _ _, fun k' h => by cases h⟩
  · by_cases h0 : l.length = 0
    · obtain rfl : l = [] := List.eq_nil_of_length_eq_zero h0
      refine ⟨(none, .slice (some ⟨b, 0, none⟩) 0 0), fun μ _ => .empty hb _ _, fun H hH => ⟨[], Sl.void H _ _ _, fun i x h => by simp at h⟩, fun k' h => by cases h⟩
    · have hp : 0 < l.length := by omega
      obtain ⟨hlt, hcs⟩ := cells_at (fun i => .int .i64 (l.getD i 0)) hp hc
      refine ⟨(some ⟨x.block, x.off, 0, 1, false⟩, .slice (some ⟨b, 0, none⟩) l.length cap), fun μ hμ => ?_, fun H hH => ?_, fun k' hk μ => ?_⟩
      · have h0 := hc 0 hp
        rw [show x.add 0 = x by simp [Addr.add]] at h0
        have hsp := World.cell?_spot h0
        obtain ⟨xb, xo, xs⟩ := x
        simp only at hsp
        subst hsp
        have := VR.slice (i := 0) (len := l.length) (cap := cap) (cap' := cap) hμ (by omega) hl (Nat.le_refl _) (fun _ => rfl) (fun h => by cases h)
        simpa using this
      · refine ⟨l.map (Value.int .i64), ⟨some ⟨b, 0, none⟩, cap, rfl, hl, by simp, fun _ => ⟨b, 0, _, _, rfl, hH, rfl, rfl, by simp, ?_⟩⟩, fun i y hy => ?_⟩
        · rw [List.drop_zero, Nat.mul_one, List.take_of_length_le (by simp)]
        · simp [elV, hy, IR]
      · obtain rfl := Option.some.inj hk
        obtain ⟨inf, hi, hs⟩ := info_int
        refine .ro hi hs (fun i v hv => ?_) hlt
        rw [List.getElem?_map] at hv
        cases hli : l[i]? with
        | none => rw [hli] at hv; cases hv
        | some y =>
          rw [hli] at hv
          obtain rfl := Option.some.inj hv
          have hil := (gsI.1 hli).1
          exact ⟨_, hcs i hil, by simp only [List.getD_eq_getElem?_getD, hli]; exact .int _ _⟩
theorem sim_none {w : World} : Sim prog w.heap.size (fun _ => none) [.dead] w :=
  ⟨by simp, Nat.le_refl _, (fun b k h => by cases h), (fun b k x h => by cases h), fun b b' k k' h => by cases h⟩
theorem TabM.sim {w : World} {v : Value} {t : List (List Int)} (h : TabM w v t) : ∃ (μ : Mu) (H : SHeap) (s : Value), Sim prog w.heap.size μ H w ∧ VR μ s v ∧ ITab H s t ∧ ∀ b, ¬ IsOwn H b := by
  have dead1 : ∀ b, ¬ IsOwn [SObj.dead] b := by
    rintro b ⟨e, l, cs, h⟩
    match b with
    | 0 => simp at h
    | n + 1 => simp at h
  rcases h with ⟨rfl, rfl⟩ | ⟨x, cap, rfl, hl, V, hV⟩
  · exact ⟨fun _ => none, [.dead], .slice none 0 0, sim_none, .nils, Row.nil _ _ _ _ _, dead1⟩
  · by_cases h0 : t.length = 0
    · obtain rfl : t = [] := List.eq_nil_of_length_eq_zero h0
      exact ⟨fun _ => none, [.dead], .slice (some ⟨1, 0, none⟩) 0 0, sim_none, .empty (by decide) _ _, ⟨[], Sl.void _ _ _ _, fun i x h => by simp at h⟩, dead1⟩
    · have hp : 0 < t.length := by omega
      obtain ⟨hlt, hcs⟩ := cells_at V hp fun i hi => (hV i hi).1
      obtain ⟨f, hf⟩ := Go.Deep.choose_lt (α := Option Bk × Value) (n := t.length) (p := fun i p => RowS w w.heap.size (i + 2) p.1 p.2 (V i) (t.getD i [])) fun i hi => (hV i hi).2.rs (by omega)
      have hget : ∀ i, i < t.length → t[i]? = some (t.getD i []) := fun i hi => by
        rw [List.getD_eq_getElem?_getD, gtE hi]; rfl
      obtain ⟨H, hH⟩ : ∃ H : SHeap, H = .dead :: .ro 34 ((List.range t.length).map fun i => (f i).2) :: t.map fun l => SObj.ro 3 (l.map (Value.int .i64)) := ⟨_, rfl⟩
      obtain ⟨μ, hμ⟩ : ∃ μ : Mu, μ = fun b => if b = 1 then some ⟨x.block, x.off, 0, 1, false⟩ else if 2 ≤ b ∧ b < t.length + 2 then (f (b - 2)).1 else none := ⟨_, rfl⟩
      have H1 : H[1]? = some (.ro 34 ((List.range t.length).map fun i => (f i).2)) := by rw [hH]; rfl
      have H2 : ∀ i, i < t.length → H[i + 2]? = some (.ro 3 ((t.getD i []).map (Value.int .i64))) := fun i hi => by
        rw [hH]
        show (t.map fun l => SObj.ro 3 (l.map (Value.int .i64)))[i]? = _
        rw [List.getElem?_map, hget i hi]
        rfl
      have Hl : H.length = t.length + 2 := by rw [hH]; simp
      have m1 : μ 1 = some ⟨x.block, x.off, 0, 1, false⟩ := by rw [hμ]; rfl
      have m2 : ∀ i, i < t.length → μ (i + 2) = (f i).1 := fun i hi => by
        rw [hμ]
        show (if i + 2 = 1 then _ else _) = _
        rw [if_neg (by omega), if_pos ⟨by omega, by omega⟩]
        rfl
      have hno : ∀ b, ¬ IsOwn H b := by
        rintro b ⟨e, l, cs, h⟩
        match b with
        | 0 => rw [hH] at h; simp at h
        | 1 => rw [H1] at h; cases h
        | i + 2 =>
          have hb := (gsI.1 h).1
          rw [H2 i (by omega)] at h
          cases h
      have hcase : ∀ b k, μ b = some k → b = 1 ∨ ∃ i, i < t.length ∧ b = i + 2 := fun b k h => by
        rw [hμ] at h
        simp only at h
        split at h
        · exact .inl ‹_›
        · split at h
          · exact .inr ⟨b - 2, by omega, by omega⟩
          · cases h
      refine ⟨μ, H, .slice (some ⟨1, 0, none⟩) t.length cap, ⟨by omega, Nat.le_refl _, fun b k h => ?_, fun b k y h hy => ?_, fun b b' k k' _ _ _ ho => absurd ho (hno b)⟩, ?_, ?_, hno⟩
      · rcases hcase b k h with rfl | ⟨i, hi, rfl⟩ <;> omega
      · rcases hcase b k h with rfl | ⟨i, hi, rfl⟩
        · rw [m1] at h
          obtain rfl := Option.some.inj h
          rw [H1] at hy
          obtain rfl := Option.some.inj hy
          obtain ⟨inf, hi, hs⟩ := info_row
          refine .ro hi hs (fun i u hu => ?_) hlt
          rw [List.getElem?_map] at hu
          by_cases hi : i < t.length
          · rw [List.getElem?_range hi] at hu
            obtain rfl := Option.some.inj hu
            exact ⟨_, hcs i hi, (hf i hi).vr μ (m2 i hi)⟩
          · rw [List.getElem?_eq_none (by simp; omega)] at hu
            cases hu
        · rw [H2 i hi] at hy
          obtain rfl := Option.some.inj hy
          exact (hf i hi).blk k (by rw [← m2 i hi, h]) μ
      · have h0 := (hV 0 hp).1
        rw [show x.add 0 = x by simp [Addr.add]] at h0
        have hsp := World.cell?_spot h0
        obtain ⟨xb, xo, xs⟩ := x
        simp only at hsp
        subst hsp
        have := VR.slice (i := 0) (len := t.length) (cap := cap) (cap' := cap) m1 (by omega) hl (Nat.le_refl _) (fun _ => rfl) (fun h => by cases h)
        simpa using this
      · refine ⟨(List.range t.length).map fun i => (f i).2, ⟨some ⟨1, 0, none⟩, cap, rfl, hl, by simp, fun _ => ⟨1, 0, _, _, rfl, H1, rfl, rfl, by simp, ?_⟩⟩, fun i l hi => ?_⟩
        · rw [List.drop_zero, Nat.mul_one, List.take_of_length_le (by simp)]
        · have hil := (gsI.1 hi).1
          rw [hget i hil] at hi
          obtain rfl := Option.some.inj hi
          have := (hf i hil).row H (H2 i hil)
          simpa [elV, hil] using this
theorem Step.below {μ μ1 : Mu} {H H1 : SHeap} {w w1 : World} (h : Step μ H w μ1 H1 w1) (hno : ∀ b, ¬ IsOwn H b) : Below w.heap.size w w1 :=
  ⟨h.os, h.tape, h.output, h.size, fun g hg => h.frame g hg fun b k _ ho => absurd ho (hno b)⟩
theorem callable_plans {a : Option Addr} {l c : Nat} {H : SHeap} {Q : Value → SHeap → Prop} (h : SW prog 3 [.slice a l c] H Q) : ∃ v H1, Run prog (.call 3 [.slice a l c] H) (.val v H1) ∧ Q v H1 := by
  obtain ⟨v, H1, ⟨-, hr⟩ | ⟨⟨-, -, hr⟩, -⟩, hq⟩ := h
  · exact ⟨v, H1, hr, hq⟩
  · have : (match pureRun prog (callFunc 3 [Value.slice a l c].toArray) with | some (.value _) => true | _ => false) = false := by kernel_rfl
    rw [hr] at this
    cases this
theorem plans_mixed : (prog).follows .mixedOrders = true := by kernel_rfl
theorem shopPlans_walk {w : World} {v : Value} {t : List (List Int)} (h : TabM w v t) :
    Calls prog 3 #[v] w fun e w' => e = .returned (.bool true) ∧ Below w.heap.size w w' := by
  obtain ⟨μ, H, s, hS, hV, hI, hno⟩ := h.sim
  obtain ⟨a, c, rfl⟩ := Row.len hI
  obtain ⟨u, H1, hR, hx, rfl⟩ := callable_plans (shopPlans_spec hI)
  refine (run_sound plans_mixed hR (args' := #[v]) ⟨rfl, fun i x y hx hy => ?_⟩ hS).mono fun e w' he => ?_
  · match i with
    | 0 => simp at hx hy; subst hx hy; exact hV
    | n + 1 => simp at hx
  · obtain ⟨v', μ1, rfl, hv, -, hst⟩ := he
    cases hv
    exact ⟨rfl, hst.below hno⟩
end Go.Sx
end
section
namespace Go.Proofs.YtoiodfcefbapkaaGreat.shopPlans
open Go.ChangeShapes Go.WideShapes Go.ChangeAt Go.RowKit
theorem own : ownKnob Tryz.prog.godebug = none := by kernel_rfl
theorem laidOut : laidOutB Tryz.prog = true := by kernel_rfl
theorem cells34 : Tryz.prog.cellsOf 34 = 1 := by kernel_rfl
theorem cells3 : Tryz.prog.cellsOf 3 = 1 := by kernel_rfl
theorem row_of {H : Type} {enc : TypeId × Value → H} {W : World} {u : Value} {fuel : Nat} {x : DataW H × List MemPlace} (h : DataW.trod enc Tryz.prog W 0 (fun _ => true) true fuel 34 [u] = some x) :
    ∃ l, Sx.RowM W u l := by
  rcases open_ints Tryz.underlying34 Tryz.underlying3 cells3 h with ⟨hcs, _⟩ | ⟨x, l, c, zs, hcs, _, hl, hm, hz, _, hcell, hwz⟩
  · simp at hcs
    subst hcs
    exact ⟨[], .inl ⟨rfl, rfl⟩⟩
  · simp at hcs
    subst hcs
    have hz' : zs.length = c := by simpa using hz
    have hlen : (zs.take l).length = l := by simp; omega
    refine ⟨zs.take l, .inr ⟨x, c, by rw [hlen], by omega, fun i hi => ?_⟩⟩
    rw [hcell i (by omega)]
    simp only [List.getD_eq_getElem?_getD]
    rw [List.getElem?_take_of_lt (by omega)]
theorem tab_of {H : Type} {enc : TypeId × Value → H} {W : World} {v : Value} {fuel : Nat} {x : DataW H × List MemPlace} (h : DataW.trod enc Tryz.prog W 0 (fun _ => true) true fuel 22 [v] = some x) :
    ∃ t, Sx.TabM W v t := by
  rcases Deep.open_slice1 Tryz.underlying22 cells34 h with ⟨hcs, _⟩ | ⟨a, len, cap, m, n, V, D, Pl, hcs, _, hl, hm, hmm, _, hx⟩
  · simp at hcs
    subst hcs
    exact ⟨[], .inl ⟨rfl, rfl⟩⟩
  · simp at hcs
    subst hcs
    have hmc : m = cap := by simpa using hmm
    obtain ⟨g, hg⟩ := Deep.choose_lt (α := List Int) (n := len) (p := fun i l => Sx.RowM W (V i) l) fun i hi => row_of (hx i (by omega)).2
    refine ⟨(List.range len).map g, .inr ⟨a, cap, by simp, by simpa using hl, V, fun i hi => ?_⟩⟩
    have hi' : i < len := by simpa using hi
    refine ⟨(hx i (by omega)).1, ?_⟩
    have : ((List.range len).map g).getD i [] = g i := by simp [List.getD_eq_getElem?_getD, hi']
    rw [this]
    exact hg i hi'
set_option maxRecDepth 100000 in
theorem lifted (os : Os) (started : os.Started) (H : Type) (enc : TypeId × Value → H) :
    ReturnsInHanded {} Tryz.checked os 3 .any (Rows.shopPlansSpec.pre6 enc Tryz.prog Tryz.f3 Rows.shopPlansRow.domain false) (Rows.shopPlansSpec.post enc Tryz.prog Tryz.f3 false true false false) := by
  refine returnsInHanded_of_change (C := Tryz.checked) own started (by kernel_rfl) Tryz.func3
    (ChangeSpec.witness6 (enc := enc) (C := Tryz.checked) false ⟨#[], #[.slice none 0 0], []⟩ 8 (by kernel_rfl) (by kernel_rfl) (by kernel_rfl) (by kernel_rfl)) ?_
  intro W base args ds gs before hval0 hW hcnd _
  have hval : ∀ (j : Nat) t v, Tryz.f3.params[j]? = some t → args[j]? = some v → Value.okWide Tryz.prog W .any base t v := hval0
  have hW' := hW
  obtain ⟨p, q, hA0, hV, rfl, hfz, hnd⟩ := hW
  have hA : DataW.TrodAll enc Tryz.prog W 0 (fun _ => true) true Tryz.f3.params.toList args.toList ds p := hA0
  rw [Tryz.params3] at hA hval
  obtain ⟨v0, vs0, d0, ds0, p0, q0, hargs, rfl, rfl, h0, r0⟩ := trodAll_cons hA
  obtain ⟨rfl, rfl, rfl⟩ := trodAll_nil r0
  obtain rfl : args = #[v0] := by cases args; simp_all
  obtain ⟨rfl, rfl⟩ := trodVars_none hV
  obtain ⟨a0, len0, cap0, rfl⟩ := okWide_slice Tryz.underlying22 (hval 0 22 v0 rfl rfl)
  have k0 := h0
  have lt0 : ∀ x ∈ p0, x.block < W.heap.size := by obtain ⟨m, hm⟩ := k0; exact DataW.trod_lt m _ _ _ hm
  obtain ⟨t, w0⟩ : ∃ t, Sx.TabM W (.slice a0 len0 cap0) t := by
    obtain ⟨fuel, hf⟩ := h0
    simp only [Value.cells] at hf
    exact tab_of hf
  clear hA0 hval0
  refine (Sx.shopPlans_walk w0).mono fun e W' ⟨he, bel⟩ => ?_
  subst he
  exact ⟨_, rfl, _, _, _, [], _, [], hW', trodAll_mk1 (shut_bool Tryz.underlying4 _), (trodAll_cons_mk (Below.trod laidOut (by kernel_rfl) (of_decide_eq_true (by kernel_rfl)) k0 bel lt0) trodAll_mk0), rfl, bel.frame _, fun h => by cases h⟩
theorem over : Rows.shopPlansRow.holds Tryz.pinned (OpenSpec.ofChange Rows.shopPlansSpec) :=
  OpenClaim.holds_of_wide 3 Tryz.f3 rfl rfl rfl rfl rfl rfl rfl ⟨rfl, rfl, rfl, rfl, rfl⟩ rfl rfl rfl rfl rfl (by kernel_rfl) Tryz.func3 (by kernel_rfl)
    (of_decide_eq_true (by kernel_rfl)) (by unfold Func.isWrapper; first | (rw [if_pos (by decide +kernel)]; kernel_rfl) | (rw [if_neg (by decide +kernel)]; exact ⟨rfl, rfl⟩))
    (fun os started H enc _ => lifted os started H enc)
theorem proved : Rows.ShopPlansSaid := over
end Go.Proofs.YtoiodfcefbapkaaGreat.shopPlans
end
