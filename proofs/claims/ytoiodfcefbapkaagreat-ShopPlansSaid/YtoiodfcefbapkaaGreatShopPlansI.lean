/- Part of the proof of ShopPlans. -/
import Derived.Test.YtoiodfcefbapkaaGreatShopPlansH
set_option linter.unusedVariables false
set_option linter.unusedSimpArgs false
section
set_option maxRecDepth 8000
set_option maxHeartbeats 1000000
namespace Go.Sx
open Go.Proofs
open Go.Proofs.Tryz (prog)
attribute [-simp] tx_ia tx_ln tx_ix
theorem OwR.sh {α : Type} {f : FuncId} {args : List Value} {H : SHeap} {k e sz : Nat} {ag : Bool} {R : SHeap → Value → α → Prop} {xs : List α} (h : SW prog f args H (fun u H1 => Ext H H1 ∧ OwR k e sz ag R H1 u xs)) : SW prog f args H (fun u H1 => Ext H H1 ∧ ∃ a c, u = .slice a xs.length c ∧ OwR k e sz ag R H1 (.slice a xs.length c) xs) :=
  h.mono fun u H1 ⟨hx, ho⟩ => by
    obtain ⟨a, c, rfl⟩ := ho.len
    exact ⟨hx, a, c, rfl, ho⟩
theorem machinesN_spec {v : Value} {t : List (List Rat)} {r0 : List Rat} {n : Nat} {H : SHeap} (hT : QTab H v t) (h0 : t[0]? = some r0) (hn : r0.length = n) : SW prog 49 [.agg #[v]] H (fun w H1 => Ext H H1 ∧ w = .int .i64 n) := by
  subst hn
  exact machinesQ_spec hT h0
theorem jobsN_spec {v : Value} {t : List (List Rat)} {n : Nat} {H : SHeap} (hT : QTab H v t) (hn : t.length = n) : SW prog 48 [.agg #[v]] H (fun w H1 => Ext H H1 ∧ w = .int .i64 n) := by
  subst hn
  exact jobsQ_spec hT
theorem cmp_lt {a b : Rat} : ((if a < b then (-1 : Int) else if a = b then 0 else 1) < 0) ↔ a < b := by
  by_cases h1 : a < b
  · simp [h1]
  · by_cases h2 : a = b
    · simp [h2]
    · simp [h1, h2]
theorem tx_part {d : Nat} {x y : Operand} {r : List XOp} {F : Fr} {H : SHeap} {Q : Fr → SHeap → Prop} {q : Rat} {js : List Int} {tk : Tok (bd d 113 [(0, x), (1, y)] :: r) Q} (hx : RatQ H (fev F x) q) (hy : Row 3 1 false IR H (fev F y) js)
    (K : ∀ u, PartR H u (q, js) → XWt prog r Q .mk (upd F d u) H) : XWt prog (bd d 113 [(0, x), (1, y)] :: r) Q tk F H := by
  obtain ⟨s1, a1, n1, c1, s2, a2, n2, c2, hv, h1, h2⟩ := RatV.shape hx
  obtain ⟨a3, c3, hw⟩ := hy.len
  have hR : PartR H (.agg #[.bool s1, .slice a1 n1 c1, .bool s2, .slice a2 n2 c2, .slice a3 js.length c3]) (q, js) := ⟨s1, a1, n1, c1, s2, a2, n2, c2, a3, _, c3, rfl, by rw [← hv]; exact hx, by rw [← hw]; exact hy⟩
  have := K _ hR
  simp [hv, hw]
  exact this
attribute [-simp] bd_113
theorem Dim.set {n m j : Nat} {t : List (List Rat)} {r' : List Rat} (h : Dim n m t) (hr : r'.length = m) : Dim n m (t.set j r') :=
  ⟨by simp [h.len], fun r h' => by
    rcases List.mem_or_eq_of_mem_set h' with h' | rfl
    · exact h.row r h'
    · exact hr⟩
theorem TabG.set {D j : Nat} {t : List (List Rat)} {r' : List Rat} (h : TabG D t) (hr : ∀ q ∈ r', MulOf D q) : TabG D (t.set j r') := fun r h' => by
  rcases List.mem_or_eq_of_mem_set h' with h' | rfl
  · exact h r h'
  · exact hr
theorem ent_set {t : List (List Rat)} {r : List Rat} {j i : Nat} {x : Rat} (hj : t[j]? = some r) (hi : i < r.length) (j' k' : Nat) : ent (t.set j (r.set i x)) j' k' = if j' = j ∧ k' = i then x else ent t j' k' := by
  have hjl := (gsI.1 hj).1
  unfold ent
  by_cases h1 : j' = j
  · subst h1
    rw [List.getElem?_set_self hjl, hj]
    simp only [Option.getD_some, true_and]
    by_cases h2 : k' = i
    · subst h2; rw [List.getElem?_set_self hi]; simp
    · rw [List.getElem?_set_ne (by omega), if_neg h2]
  · rw [List.getElem?_set_ne (by omega), if_neg (fun h => h1 h.1)]
theorem posC_congr {n : Nat} {B B' : Nat → Nat → Rat} (e : ∀ i k, i < n → k < n → B' i k = B i k) : posC n B' = posC n B := sumN_congr fun i hi => sumN_congr fun k hk => by rw [e i k hi hk]
theorem kept_set {H : SHeap} {b e : Nat} {l : Bool} {cs : List Value} {X : SObj} (h : H[b]? = some (.own e l cs)) : Kept H (H.set b X) (.slice (some ⟨b, 0, none⟩) 0 0) e := fun b' Y hY hb => by
  by_cases hbb : b = b'
  · subst hbb
    rw [h] at hY
    exact absurd (by rw [← Option.some.inj hY]; rfl) (hb ⟨0, 0, 0, rfl⟩)
  · rw [List.getElem?_set_ne hbb]; exact hY
theorem MSt.fresh {Hc H : SHeap} {mb n : Nat} {av jv sv sv' : Value} {t : List (List Rat)} {mj : List Int} {sn sn' : List Bool} (h : MSt Hc H mb n av jv sv t mj sn) (hO : OwR Hc.length 4 1 false BR H sv' sn') : MSt Hc (H.set mb (.own 140 false [av, jv, sv'])) mb n av jv sv' t mj sn' := by
  have hk := kept_set (X := .own 140 false [av, jv, sv']) h.blk
  exact ⟨h.pos, h.ext.set h.mbg (by simp), h.tab, h.tlen, h.rlen, h.small, h.mbg, List.getElem?_set_self (gsI.1 h.blk).1, h.jobs.other hk (by decide) fun _ _ h => h, hO.other hk (by decide) fun _ _ h => h⟩
theorem MSt.next {Hc H : SHeap} {mb n tt : Nat} {av jv sv : Value} {t : List (List Rat)} {mj : List Int} {L : Rat} (hl : Lev n (ent t) L) (hL : 0 < L) (hM : Matched n (ent t) tt mj) (ht : tt < n) (h : MSt Hc H mb n av jv sv t mj (List.replicate n false)) :
    SW prog 86 [.pointer (some ⟨mb, 0, none⟩), .int .i64 tt] H (fun u H1 => ∃ mj' sn', u = .bool true ∧ Matched n (ent t) (tt + 1) mj' ∧ MSt Hc H1 mb n av jv sv t mj' sn') :=
  (find_spec n (n + 1) (by unfold unseen; rw [List.count_replicate]; simp; ) h (by simp) hM.ok ht).mono fun u H1 ⟨b, mj', sn', hu, hR, hS⟩ => by
    obtain ⟨rfl, h2⟩ := Matched.next hl.nn hl.row hl.col hL hM ht hR
    exact ⟨mj', sn', hu, h2, hS⟩
theorem decompose_spec {v : Value} {t : List (List Rat)} {n N D : Nat} {L : Rat} {H : SHeap} (hT : QTab H v t) (hd : Dim n n t) (hn : 0 < n) (hn2 : n < 65536) (hl : Lev n (ent t) L) (hg : TabG D t) (hG : Grid D N L) :
    SW prog 58 [.agg #[v]] H (fun u H1 => Ext H H1 ∧ ∃ ps, DecR n (ent t) L ps ∧ (∀ p ∈ ps, MulOf D p.1) ∧ Row 113 5 true PartR H1 u ps) := by
  refine SW.cps fun Q hQ => ?_
  have htl := hd.len
  apply into_shop_table_decompose (by simp)
  obtain ⟨a, c, rfl⟩ := Row.len hT
  simp [Z_shop_table_decompose]
  have hx0 : Ext H (H ++ [.dead]) := Ext.dead H
  refine tx_lnR (R := QRow) (xs := t) (by simpa using hT.ext hx0) (by simp) ?_
  simp
  obtain ⟨HA, hHA⟩ : ∃ HA, HA = H ++ [SObj.dead] := ⟨_, rfl⟩
  have hA0 : 0 < HA.length := by rw [hHA]; simp
  rw [← hHA] at hx0 ⊢
  have hTA := hT.ext hx0
  refine LoopZt.range (by kernel_rfl) t.length (by omega) (by simp) (by rfl) (by simp) (by decide) (by decide) (fun i F2 G2 H2 => Ext HA H2 ∧ ∃ us, OTab HA.length 120 80 4 true RatQ H2 (F2 3) (t.take i) us) ?_ ?_ ?_
  · exact ⟨Ext.refl _, [], by simpa using OTab.nil _ _ _ _ _ _ _ hA0⟩
  · rintro i F2 G2 H2 hi hF ⟨hx2, us, hTab⟩ K hK
    simp at hF hTab
    simp [hF]
    obtain ⟨row, hrow⟩ : ∃ row, t[i]? = some row := ⟨_, gtE hi⟩
    have hrn := hd.row row (List.mem_of_getElem? hrow)
    refine tx_elem (R := QRow) (xs := t) (n := i) (a := row) (e := 120) (sz := 1) (ag := false) (by simpa using Mono.ext hTA hx2) (by simp [hF]) hrow (by simp) (by simp) (by simp) (by decide) ?_
    intro p1 ur hur
    simp
    refine SWt.mk (cloneQ_spec hur (by omega)) ?_
    rintro w H3 ⟨hx3, hw⟩
    have hHA2 := Ext.len hx2
    have hTab3 := OTab.ext hTab hx3
    have hw' := hw.le hHA2
    have hww := hw.wh
    refine tx_pushB (k := HA.length) (e := 120) (sz := 1) (ag := false) (by_ := 24) (z := .slice none 0 0) (R := EqR) (xs := us) (a := w) (by simpa using hTab3.own) (by simp [EqR]) (by simpa using hww) (by simp) (fun _ _ _ _ _ h => h) (by simp) (by simp) (by simp) (by simp) (by simp) (by rfl) (by rfl) (by rfl) (by rfl) (by decide) (by decide) (by decide) (by have := hTab.len; simp at this; omega) (by have := Ext.len hx3; omega) ?_
    intro p7 v7 H7 hO7 hx7 hk7 hg7 hl7
    simp at hk7 hg7
    have hsn := OTab.snoc (H0 := H2) (n0 := H2.length) hTab3 (fun b h0 hb => (hw.ge hb h0).1) (fun j u b hu hb h0 => hTab.lt j u b hu hb h0) (by decide) hw' hO7 hk7 (fun u x h => h.kept hk7 (by decide))
    simp
    refine hK _ _ _ (by simp [hF]) ⟨hx7 _ (Nat.le_refl _) (hx2.tr hx3), us ++ [w], ?_⟩
    rw [List.take_succ_eq_append_getElem hi]
    have : t[i] = row := (gsI.1 hrow).2
    rw [this]
    simpa using hsn
  · rintro F2 G2 HB hF ⟨hxB, us, hTabB⟩
    simp at hTabB
    obtain ⟨la, lc, hl3⟩ := hTabB.own.len
    have hB0 := Ext.len hxB
    obtain ⟨lv, hlv⟩ : ∃ lv, lv = Value.slice la us.length lc := ⟨_, rfl⟩
    rw [hl3, ← hlv] at hTabB
    simp [hl3]
    rw [← hlv]
    obtain ⟨HC, hHC⟩ : ∃ HC, HC = HB ++ [SObj.dead] := ⟨_, rfl⟩
    have hxC : Ext HB HC := by rw [hHC]; exact Ext.dead HB
    rw [← hHC]
    refine LoopZt.mk (by kernel_rfl) (fun w F3 G3 H3 => ∃ Bt us ps, w = posC n (ent Bt) ∧ Ext HA H3 ∧ OTab HA.length 120 80 4 true RatQ H3 lv Bt us ∧ OwR HA.length 113 5 true PartR H3 (F3 7) ps ∧ Dim n n Bt ∧ TabG D Bt ∧ DecI n (ent t) L ps (ent Bt) ∧ (∀ p ∈ ps, MulOf D p.1)) (posC n (ent t)) ?_ ?_
    · exact ⟨t, us, [], rfl, hxB.tr hxC, hTabB.ext hxC, by simpa using OwR.nil _ _ _ _ _ _, hd, hg, DecI.zero hl, by simp⟩
    · rintro w F3 G3 H3 ⟨Bt, us3, ps, rfl, hx3, hTab3, hP3, hd3, hg3, hI3, hm3⟩ K hK
      obtain ⟨r0, hr0, hr0m, hr0n, hr0e, hr0s⟩ := hd3.at hn
      simp at hP3
      simp
      have hG3 : Grid D N (L - plen ps) := hG.le (by have := (plen_pos fun p hp => (hI3.parts p hp).1).1; grind)
      have hsz3 := tabSz hd3 hg3 hG3 (fun i k hi hk => hI3.lev.nn i k hi hk) fun i hi => by rw [hI3.lev.row i hi]; exact Rat.le_refl
      have hQT3 : QTab H3 lv Bt := hTab3.row
      have hBl := hd3.len
      refine SWt.mk (load_spec (j := 0) hQT3 hr0 (by omega) (by omega) (hsz3 r0 hr0m).1 (hsz3 r0 hr0m).2 hG.bits) ?_
      rintro s0 H4 ⟨hx4, hs0⟩
      rw [hr0s, hI3.lev.row 0 hn] at hs0
      simp
      refine SWt.mk (qsign_spec hs0) ?_
      rintro u H5 ⟨hx5, rfl⟩
      have hx35 := hx4.tr hx5
      simp
      refine Brt.mkD (fun hc => ?_) (fun hc => ?_)
      · have hLp : 0 < L - plen ps := by
          have : ¬ (L - plen ps ≤ 0) := fun h => by have := sign_le.2 h; omega
          exact Rat.not_le.1 this
        simp
        refine tx_bs1R (e := 3) (sz := 1) (ag := false) (z := .int .i64 0) (R := IR) (a := -1) (fun H' _ => by simp [IR]) (by simpa using wh_int (-1)) (by simp) (by simp) (by simp) (by rfl) (by rfl) (by rfl) (by decide) (by decide) ?_
        intro w6 H6 hO6 hx6
        simp
        have hQT6 := QTab.ext hQT3 (hx35.tr hx6)
        refine SWt.mk (machinesN_spec hQT6 hr0 hr0n) ?_
        rintro u H7 ⟨hx7, rfl⟩
        refine ⟨hx7, ?_⟩
        simp
        refine SWt.mk (OwR.sh (repI_spec (R := IR) (Mono.ext (R := Row _ _ _ IR) hO6.row hx7) hn2 (fun H u y h => by rw [h]; exact wh_int y) (fun _ _ _ _ _ _ h => h))) ?_
        rintro _ H8 ⟨hx8, ja, jc, rfl, hO8⟩
        refine ⟨hx8, ?_⟩
        simp
        have hx68 := hx6.tr (hx7.tr hx8)
        have hl56 := Ext.len hx6
        have hl58 := Ext.len hx68
        have hx89 : Ext H8 (H8 ++ [.own 140 false [lv, .slice ja n jc, .slice none 0 0]]) := (Ext.refl H8).snoc _ _ _
        have hl60 := Ext.len hx7
        have hM9 : MSt H5 (H8 ++ [.own 140 false [lv, .slice ja n jc, .slice none 0 0]]) H8.length n lv (.slice ja n jc) (.slice none 0 0) Bt (List.replicate n (-1)) [] :=
          ⟨by have := Ext.len hx35; have := Ext.len hx3; omega, hx68.tr hx89, QTab.ext hQT3 hx35, hBl, hd3.row, hn2, hl58, by simp, Mono.ext (R := OwR _ _ _ _ IR) (by simpa using hO8.le (k' := H5.length) (by omega)) hx89, OwR.nil _ _ _ _ _ _⟩
        have hQT9 := hM9.tab.ext hM9.ext
        refine SWt.mk (jobsN_spec hQT9 hBl) ?_
        rintro u H10 ⟨hx10, rfl⟩
        have hM10 := hM9.more hx10
        simp
        refine LoopZt.range (by kernel_rfl) n (by omega) (by simp) (by rfl) (by simp) (by decide) (by decide) (fun tt F11 G11 H11 => ∃ mj sv sn, MSt H5 H11 H8.length n lv (.slice ja n jc) sv Bt mj sn ∧ Matched n (ent Bt) tt mj) ?_ ?_ ?_
        · exact ⟨_, _, _, hM10, Matched.zero _ _⟩
        · rintro tt F11 G11 H11 htt hF11 ⟨mj, sv, sn, hM11, hMa⟩ K5 hK5
          simp at hF11
          have hQT11 := hM11.tab.ext hM11.ext
          simp [hF11]
          refine SWt.mk (machinesN_spec hQT11 hr0 hr0n) ?_
          rintro u H12 ⟨hx12, rfl⟩
          have hM12 := hM11.more hx12
          have hl12 := Ext.len hM12.ext
          refine tx_mkS (e := 4) (sz := 1) (by_ := 1) (ag := false) (n := n) (kl := .i64) (kc := .i64) (z := .bool false) (R := BR) (a := false) (by simp) (by simp) (by simp) (by rfl) (by rfl) (by simp) (wh_bool false) (by simp) (by simp) (by decide) (by decide) (by omega) (fun H' => rfl) ?_
          intro na nc H13 hO13 hx13
          have hM13 := hM12.more hx13
          have hblk13 := hM13.blk
          have hM14 := hM13.fresh (hO13.le hl12)
          simp [hblk13]
          refine SWt.mk (MSt.next hI3.lev hLp hMa htt hM14) ?_
          rintro u H15 ⟨mj', sn', rfl, hMa', hM15⟩
          exact hK5 _ _ _ (by simp [hF11]) ⟨mj', _, sn', hM15, hMa'⟩
        · rintro F11 G11 H11 hF11 ⟨mj, sv, sn, hM11, hMa⟩
          have hblk11 := hM11.blk
          have hper := hMa.perm.1
          have hpos := hMa.perm.2
          refine Exists.elim (hper.job 0 hn) fun j0 hj => ?_
          have hj0 := hj.1
          have hmj0 := hj.2
          refine Exists.elim (hd3.get hj0 hn) fun rj0 hr => ?_
          have hrj0 := hr.1
          have hrj0k := hr.2.1
          have hQT11 := hM11.tab.ext hM11.ext
          simp [hblk11]
          refine tx_elem (R := IR) (xs := mj) (n := 0) (a := (j0 : Int)) (e := 3) (sz := 1) (ag := false) (by simpa using hM11.jobs.row) (by simp) hmj0 (by simp) (by simp) (by simp) (by decide) ?_
          rintro p12 u12 rfl
          refine tx_elem (R := QRow) (xs := Bt) (n := j0) (a := rj0) (e := 120) (sz := 1) (ag := false) (by simpa using hQT11) (by simp) hrj0 (by simp) (by simp) (by simp) (by decide) ?_
          intro p13 u13 hu13
          refine tx_elem (R := RatQ) (xs := rj0) (n := 0) (a := ent Bt j0 0) (e := 80) (sz := 4) (ag := true) (by simpa using hu13) (by simp) hrj0k (by simp) (by simp) (by simp) (by decide) ?_
          intro p14 u14 hu14
          simp
          refine Putt.mk hu14.whole ?_
          have hM12 := hM11.more (Ext.dead H11)
          have hblk12 := hM12.blk
          have hjl : mj.length = n := hper.len
          simp [hblk12]
          refine tx_lnR (R := IR) (xs := mj) (by simpa using hM12.jobs.row) (by simp) ?_
          simp [hjl]
          refine Exists.elim (⟨fun k => ent Bt (mj[k]?.getD 0).toNat k, rfl⟩ : ∃ f : Nat → Rat, f = fun k => ent Bt (mj[k]?.getD 0).toNat k) fun f hf => ?_
          have hf0 : f 0 = ent Bt j0 0 := by rw [hf]; simp [hmj0]
          have hfk : ∀ k j : Nat, mj[k]? = some (j : Int) → f k = ent Bt j k := fun k j h => by rw [hf]; simp [h]
          have hfs : ∀ k, k < n → SzQ N (f k) := fun k hk => by
            obtain ⟨j, q1, q2⟩ := hper.job k hk
            rw [hfk k j q2]
            exact hG3.sz (hg3.ent j k) (hI3.lev.nn j k q1 hk) (hI3.lev.le q1 hk)
          have hms : ∀ k, k ≤ n → SzQ N (minTo f k) := fun k hk => by
            by_cases hk0 : k = 0
            · subst hk0; exact hfs 0 hn
            · obtain ⟨i, q1, q2⟩ := minTo_at f k (by omega)
              rw [q2]; exact hfs i (by omega)
          refine LoopZt.range (by kernel_rfl) n (by omega) (by simp) (by rfl) (by simp) (by decide) (by decide) (fun i F13 G13 H13 => Ext (H11 ++ [.dead]) H13 ∧ RatQ H13 (G13 11) (minTo f i)) ?_ ?_ ?_
          · refine ⟨Ext.refl _, ?_⟩
            simp only [minTo, hf0]
            simpa using hu14.ext (Ext.dead H11)
          · rintro i F13 G13 H13 hi hF13 ⟨hx13, hmin⟩ K6 hK6
            simp at hF13 hmin
            refine ZXt.join (by kernel_rfl) (fun F15 G15 H15 => Ext H13 H15 ∧ RatQ H15 (G15 11) (minTo f (i + 1))) ?_ ?_
            · rintro K7 hK7 -
              have hM13 := hM12.more hx13
              have hQT13 := hM13.tab.ext hM13.ext
              refine Exists.elim (hper.job i hi) fun j hj => ?_
              have hj1 := hj.1
              have hj2 := hj.2
              have hfi := hfk i j hj2
              refine Exists.elim (hd3.get hj1 hi) fun rj hr => ?_
              simp [hF13]
              refine tx_elem (R := IR) (xs := mj) (n := i) (a := (j : Int)) (e := 3) (sz := 1) (ag := false) (by simpa using hM13.jobs.row) (by simp [hF13]) hj2 (by simp) (by simp) (by simp) (by decide) ?_
              rintro p15 u15 rfl
              simp [hF13]
              refine tx_elem (R := QRow) (xs := Bt) (n := j) (a := rj) (e := 120) (sz := 1) (ag := false) (by simpa using hQT13) (by simp) hr.1 (by simp) (by simp) (by simp) (by decide) ?_
              intro p16 u16 hu16
              simp
              refine tx_elem (R := RatQ) (xs := rj) (n := i) (a := ent Bt j i) (e := 80) (sz := 4) (ag := true) (by simpa using hu16) (by simp) hr.2.1 (by simp) (by simp) (by simp) (by decide) ?_
              intro p17 u17 hu17
              simp
              refine Putt.mk hu17.whole ?_
              simp
              have hxd := Ext.dead H13
              have hsi := hfs i hi
              rw [hfi] at hsi
              refine SWt.mk (qcmp_spec (hu17.ext hxd) (hmin.ext hxd) hsi (hms i (by omega)) hG.bits) ?_
              rintro w H14 ⟨hx14, rfl⟩
              simp
              refine Brt.mkD (fun hc => ?_) (fun hc => ?_)
              · have hlt := cmp_lt.1 hc
                simp
                refine Putt.mk hu17.whole ?_
                refine hK7 _ _ _ ⟨hxd.tr hx14, ?_⟩
                simp only [minTo, hfi, if_pos hlt]
                simpa using hu17.ext (hxd.tr hx14)
              · have hlt := fun h => hc (cmp_lt.2 h)
                refine hK7 _ _ _ ⟨hxd.tr hx14, ?_⟩
                simp only [minTo, hfi, if_neg hlt]
                simpa using hmin.ext (hxd.tr hx14)
            · rintro F15 G15 H15 ⟨hx15, hmin15⟩
              exact hK6 _ _ _ (by simp [hF13]) ⟨hx13.tr hx15, by simpa using hmin15⟩
          · rintro F13 G13 H13 hF13 ⟨hx13, hmin⟩
            simp at hmin
            have hM13 := hM12.more hx13
            have hblk13 := hM13.blk
            have hx313 := hx35.tr hM13.ext
            have hTab13 := hTab3.ext hx313
            have hP13 := Mono.ext (R := OwR HA.length 113 5 true PartR) hP3 hx313
            have hC13 := hx3.tr hx313
            refine Exists.elim (⟨(minTo f n, mj), rfl⟩ : ∃ p : Rat × List Int, p = (minTo f n, mj)) fun p hp => ?_
            have hp1 : p.1 = minTo f n := by rw [hp]
            have hp2 : p.2 = mj := by rw [hp]
            have hlej : ∀ k j : Nat, k < n → p.2[k]? = some (j : Int) → p.1 ≤ ent Bt j k := fun k j hk hj => by
              rw [hp2] at hj
              rw [hp1, ← hfk k j hj]
              exact minTo_le f hk
            have hat : ∃ k j : Nat, k < n ∧ j < n ∧ p.2[k]? = some (j : Int) ∧ p.1 = ent Bt j k := by
              obtain ⟨k, hk, e⟩ := minTo_at f n hn
              obtain ⟨j, q1, q2⟩ := hper.job k hk
              exact ⟨k, j, hk, q1, by rw [hp2]; exact q2, by rw [hp1, e]; exact hfk k j q2⟩
            have hp0 : 0 < p.1 := by
              obtain ⟨k, j, hk, hj, q1, q2⟩ := hat
              rw [q2]
              exact hpos k j hk (by rw [← hp2]; exact q1)
            have hpg : MulOf D p.1 := by
              obtain ⟨k, j, hk, hj, q1, q2⟩ := hat
              rw [q2]
              exact hg3.ent j k
            have hps : SzQ N p.1 := by rw [hp1]; exact hms n (Nat.le_refl n)
            simp [hblk13]
            refine tx_lnR (R := IR) (xs := mj) (by simpa using hM13.jobs.row) (by simp) ?_
            simp [hjl]
            refine LoopZt.range (by kernel_rfl) n (by omega) (by simp) (by rfl) (by simp) (by decide) (by decide) (fun i F18 G18 H18 => ∃ Bi usi, Ext HA H18 ∧ OTab HA.length 120 80 4 true RatQ H18 lv Bi usi ∧ OwR HA.length 113 5 true PartR H18 (F3 7) ps ∧ Row 3 1 false IR H18 (.slice ja n jc) mj ∧ RatQ H18 (G13 11) p.1 ∧ H18[H8.length]? = some (.own 140 false [lv, .slice ja n jc, sv]) ∧ Dim n n Bi ∧ TabG D Bi ∧ ∀ j k, j < n → k < n → ent Bi j k = if k < i then lessPart (ent Bt) p j k else ent Bt j k) ?_ ?_ ?_
            · exact ⟨Bt, us3, hC13, hTab13, hP13, hM13.jobs.row, by rw [hp1]; exact hmin, hblk13, hd3, hg3, fun j k _ _ => by simp⟩
            · rintro i F18 G18 H18 hi hF18 ⟨Bi, usi, hx18, hTab18, hP18, hJ18, hsz18, hblk18, hd18, hg18, he18⟩ K8 hK8
              simp at hF18
              refine Exists.elim (hper.job i hi) fun j hj => ?_
              have hj1 := hj.1
              have hj2 := hj.2
              refine Exists.elim (hd18.get hj1 hi) fun rj hr => ?_
              refine Exists.elim (hTab18.row_at hr.1) fun uj hu => ?_
              have hQT18 := hTab18.own.row
              simp [hF18]
              refine tx_elem (R := IR) (xs := mj) (n := i) (a := (j : Int)) (e := 3) (sz := 1) (ag := false) (by simpa using hJ18) (by simp [hF18]) hj2 (by simp) (by simp) (by simp) (by decide) ?_
              rintro p19 u19 rfl
              simp [hF18]
              refine tx_elem (R := EqR) (xs := usi) (n := j) (a := uj) (e := 120) (sz := 1) (ag := false) (by simpa using hQT18) (by simp) hu.1 (by simp) (by simp) (by simp) (by decide) ?_
              rintro p20 u20 rfl
              simp
              refine tx_elem (R := EqR) (xs := usi) (n := j) (a := u20) (e := 120) (sz := 1) (ag := false) (by simpa using hQT18) (by simp) hu.1 (by simp) (by simp) (by simp) (by decide) ?_
              rintro p21 u21 rfl
              simp
              refine tx_elem (R := RatQ) (xs := rj) (n := i) (a := ent Bi j i) (e := 80) (sz := 4) (ag := true) (by simpa using hu.2.row) (by simp) hr.2.1 (by simp) (by simp) (by simp) (by decide) ?_
              intro p22 u22 hu22
              simp
              have hej : ent Bi j i = ent Bt j i := by rw [he18 j i hj1 hi, if_neg (Nat.lt_irrefl i)]
              have hsji : SzQ N (ent Bi j i) := by rw [hej]; exact hG3.sz (hg3.ent j i) (hI3.lev.nn j i hj1 hi) (hI3.lev.le hj1 hi)
              refine SWt.mk (qsub_spec hu22 hsz18 hsji hps hG.bits) ?_
              rintro w H19 ⟨hx19, hw⟩
              refine ⟨hx19, ?_⟩
              have hTab19 := hTab18.ext hx19
              have hO19 := Mono.ext (R := OwR HA.length 80 4 true RatQ) hu.2 hx19
              refine tx_put (k := HA.length) (e := 80) (sz := 4) (ag := true) (n := i) (R := RatQ) (xs := rj) (a := ent Bi j i - p.1) (by simpa using hO19) (by simp) (by rw [hr.2.2]; exact hi) (by simpa using hw) (by simpa using hw.whole) (by simp) (fun H' s' u y hk h => h.kept hk (by decide)) (by simp) (by simp) (by simp) (by decide) ?_
              rintro p23 H20 hO20 hx20 hk20 hl20 -
              simp at hO20 hk20
              have hk : ∀ u x, RatQ H19 u x → RatQ H20 u x := fun u x h => h.kept hk20 (by decide)
              simp
              refine hK8 _ _ _ (by simp [hF18]) ⟨Bi.set j (rj.set i (ent Bi j i - p.1)), usi, ?_, hTab19.inner hu.1 (by decide) hk20 hO20 hk, ?_, ?_, hk _ _ (hsz18.ext hx19), ?_, ?_, ?_, ?_⟩
              · exact hx20 _ (Nat.le_refl _) (hx18.tr hx19)
              · exact (Mono.ext (R := OwR HA.length 113 5 true PartR) hP18 hx19).other hk20 (by decide) fun u x h => h.kept hk20 (by decide) (by decide)
              · exact (Mono.ext (R := Row _ _ _ IR) hJ18 hx19).kept hk20 (by decide) fun _ _ h => h
              · exact hk20 _ _ (hx19.get_some hblk18) fun _ => by simp [SObj.elem?]
              · exact hd18.set (by rw [List.length_set]; exact hr.2.2)
              · refine hg18.set fun q hq => ?_
                rcases List.mem_or_eq_of_mem_set hq with hq | rfl
                · exact hg18 rj (List.mem_of_getElem? hr.1) q hq
                · exact (hg18.ent j i).sub hpg
              · intro j' k' hj' hk'
                rw [ent_set hr.1 (by rw [hr.2.2]; exact hi)]
                have hpj : p.2[i]? = some (j : Int) := by rw [hp2]; exact hj2
                by_cases hki : k' = i
                · subst hki
                  rw [if_pos (Nat.lt_succ_self _)]
                  by_cases hjj : j' = j
                  · subst hjj
                    rw [if_pos ⟨rfl, rfl⟩, hej]
                    unfold lessPart ofPart
                    rw [if_pos hpj]
                  · rw [if_neg (fun h => hjj h.1), he18 j' k' hj' hk', if_neg (Nat.lt_irrefl _)]
                    unfold lessPart ofPart
                    rw [hpj, if_neg (by simp; omega)]
                    grind
                · rw [if_neg (fun h => hki h.2), he18 j' k' hj' hk']
                  by_cases hlt : k' < i
                  · rw [if_pos hlt, if_pos (by omega)]
                  · rw [if_neg hlt, if_neg (by omega)]
            · rintro F18 G18 H18 hF18 ⟨Bi, usi, hx18, hTab18, hP18, hJ18, hsz18, hblk18, hd18, hg18, he18⟩
              have he : ∀ j k, j < n → k < n → ent Bi j k = lessPart (ent Bt) p j k := fun j k hj hk => by rw [he18 j k hj hk, if_pos hk]
              have hper2 : PermOk n p.2 := by rw [hp2]; exact hper
              have hless := hI3.lev.less hper2 hp0 hlej hat
              have hnext := (hI3.next hper2 hp0 hlej hat).congr he
              have hpc := posC_congr he
              have hfew : ps.length ≤ n * n := by have := hI3.few; have := posC_le n (ent t); omega
              have hnn : n * n ≤ 65536 * 65536 := Nat.mul_le_mul (by omega) (by omega)
              have hHA18 := Ext.len hx18
              simp [hblk18]
              refine tx_part (q := p.1) (js := p.2) (by simpa using hsz18) (by rw [hp2]; simpa using hJ18) ?_
              intro u24 hu24
              refine tx_push (k := HA.length) (e := 113) (sz := 5) (ag := true) (by_ := 88) (z := .agg #[.bool false, .slice none 0 0, .bool false, .slice none 0 0, .slice none 0 0]) (R := PartR) (xs := ps) (a := p) (by simpa using hP18) (by simpa using hu24) (by simpa using hu24.wh) (by simp) (fun H' s' u y hk h => h.kept hk (by decide) (by decide)) (by simp) (by simp) (by simp) (by simp) (by simp) (by rfl) (by rfl) (by first | rfl | simp [flat, flat1]) (by rfl) (by decide) (by decide) (by decide) (by omega) (by omega) ?_
              intro p25 v25 H25 hO25 hx25 hk25
              simp at hk25
              simp
              refine hK (posC n (ent Bi)) _ _ _ (by rw [hpc]; exact hless.2) ⟨Bi, usi, ps ++ [p], rfl, hx25 _ (Nat.le_refl _) hx18, hTab18.other hk25 (by decide) (by decide) fun u x h => h.kept hk25 (by decide), by simpa using hO25, hd18, hg18, hnext, ?_⟩
              intro q hq
              rcases List.mem_append.1 hq with hq | hq
              · exact hm3 q hq
              · rw [List.mem_singleton.1 hq]; exact hpg
      · have hLn : ¬ 0 < L - plen ps := fun h => hc (by
          have : ¬ (L - plen ps ≤ 0) := Rat.not_le.2 h
          have := mt sign_le.1 this
          omega)
        simp [retOf]
        exact hQ _ _ ⟨hx0.tr (hx3.tr hx35), ps, hI3.end hn hLn, hm3, (Mono.ext (R := OwR HA.length 113 5 true PartR) hP3 hx35).row⟩
end Go.Sx
end
section
set_option maxRecDepth 8000
set_option maxHeartbeats 1000000
namespace Go.Sx
open Go.Proofs
open Go.Proofs.Tryz (prog)
attribute [-simp] tx_ia tx_ln tx_ix
def topQ (n m : Nat) (t : List (List Rat)) : Rat := if (mostTo (rload t) n).1 < (mostTo (rload (turn m t)) m).1 then (mostTo (rload (turn m t)) m).1 else (mostTo (rload t) n).1
theorem topQ_ge {n m : Nat} {t : List (List Rat)} : (mostTo (rload t) n).1 ≤ topQ n m t ∧ (mostTo (rload (turn m t)) m).1 ≤ topQ n m t := by
  unfold topQ
  split
  · rename_i h; exact ⟨Rat.le_of_lt h, Rat.le_refl⟩
  · rename_i h; exact ⟨Rat.le_refl, Rat.not_lt.1 h⟩
theorem Dim.turn {n m : Nat} {t : List (List Rat)} (h : Dim n m t) : Dim m n (turn m t) := by
  refine ⟨by simp [Go.Sx.turn], fun r hr => ?_⟩
  unfold Go.Sx.turn at hr
  rw [List.mem_map] at hr
  obtain ⟨k, -, rfl⟩ := hr
  simp [colOf, h.len]
theorem ent_turn {n m : Nat} {t : List (List Rat)} (h : Dim n m t) {i k : Nat} (hi : i < n) (hk : k < m) : ent (turn m t) k i = ent t i k := by
  unfold ent turn
  rw [List.getElem?_map, List.getElem?_range hk]
  simp only [Option.map_some, Option.getD_some]
  unfold colOf
  rw [List.getElem?_map]
  obtain ⟨r, q1, -⟩ := h.at hi
  rw [q1]
  rfl
theorem TabG.turn {D m : Nat} {t : List (List Rat)} (h : TabG D t) : TabG D (turn m t) := fun r hr q hq => by
  unfold Go.Sx.turn at hr
  rw [List.mem_map] at hr
  obtain ⟨k, -, rfl⟩ := hr
  unfold colOf at hq
  rw [List.mem_map] at hq
  obtain ⟨r', hr', rfl⟩ := hq
  cases hk : r'[k]? with
  | none => exact MulOf.zero D
  | some y => exact h r' hr' y (List.mem_of_getElem? hk)
theorem rload_sum {n m : Nat} {t : List (List Rat)} (h : Dim n m t) {i : Nat} (hi : i < n) : rload t i = sumTo m (ent t i) := by
  obtain ⟨r, q1, -, -, -, q5⟩ := h.at hi
  rw [← q5, rload, q1]
  rfl
theorem top_row {n m : Nat} {t : List (List Rat)} (h : Dim n m t) {i : Nat} (hi : i < n) : sumTo m (ent t i) ≤ topQ n m t := by
  rw [← rload_sum h hi]; exact Rat.le_trans (mostTo_le _ hi) topQ_ge.1
theorem top_col {n m : Nat} {t : List (List Rat)} (h : Dim n m t) {k : Nat} (hk : k < m) : sumTo n (fun i => ent t i k) ≤ topQ n m t := by
  have e : sumTo n (fun i => ent t i k) = rload (turn m t) k := by
    rw [rload_sum h.turn hk]
    exact sumTo_congr fun i hi => (ent_turn h hi hk).symm
  rw [e]; exact Rat.le_trans (mostTo_le _ hk) topQ_ge.2
def zrow (n : Nat) : List Rat := List.replicate n 0
def rowA (n m : Nat) (t : List (List Rat)) (top : Rat) (i : Nat) : List Rat := ((t[i]?.getD []) ++ zrow n).set (m + i) (top - sumTo m (ent t i))
def rowB (n m : Nat) (t : List (List Rat)) (top : Rat) (k : Nat) : List Rat := (zrow m ++ colOf t k).set k (top - sumTo n (fun i => ent t i k))
theorem getD_zrow (n k : Nat) : (zrow n)[k]?.getD 0 = 0 := by
  unfold zrow
  rw [List.getElem?_replicate]
  split <;> rfl
theorem rowA_get {n m : Nat} {t : List (List Rat)} {top : Rat} (h : Dim n m t) {i k : Nat} (hi : i < n) (hk : k < n + m) : (rowA n m t top i)[k]?.getD 0 = sqA n m (ent t) top i k := by
  obtain ⟨r, q1, -, q3, q4, -⟩ := h.at hi
  unfold rowA sqA
  rw [q1]
  simp only [Option.getD_some, if_pos hi]
  by_cases hkm : k < m
  · rw [if_pos hkm, List.getElem?_set_ne (by omega), List.getElem?_append_left (by omega), q4]
  · rw [if_neg hkm]
    by_cases hki : k = m + i
    · subst hki
      rw [if_pos rfl, List.getElem?_set_self (by simp [zrow]; omega)]
      rfl
    · rw [if_neg hki, List.getElem?_set_ne (by omega), List.getElem?_append_right (by omega), getD_zrow]
theorem rowB_get {n m : Nat} {t : List (List Rat)} {top : Rat} (h : Dim n m t) {i k : Nat} (hi : i < m) (hk : k < n + m) : (rowB n m t top i)[k]?.getD 0 = sqA n m (ent t) top (n + i) k := by
  unfold rowB sqA
  rw [if_neg (by omega)]
  have hzl : (zrow m).length = m := by simp [zrow]
  rw [Nat.add_sub_cancel_left]
  by_cases hkm : k < m
  · rw [if_pos hkm]
    by_cases hki : k = i
    · subst hki
      rw [if_pos rfl, List.getElem?_set_self (by simp [zrow]; omega)]
      rfl
    · rw [if_neg hki, List.getElem?_set_ne (by omega), List.getElem?_append_left (by omega), getD_zrow]
  · rw [if_neg hkm, List.getElem?_set_ne (by omega), List.getElem?_append_right (by omega), hzl]
    have : (colOf t i)[k - m]?.getD 0 = ent (turn m t) i (k - m) := by simp [ent, turn, List.getElem?_range hi]
    rw [this, ent_turn h (by omega) hi]
theorem zrow_cpA {n m : Nat} {r : List Rat} (h : r.length = m) : (zrow (n + m)).take 0 ++ r.take (n + m) ++ (zrow (n + m)).drop (0 + (r.take (n + m)).length) = r ++ zrow n := by
  rw [List.take_of_length_le (l := r) (by omega), h]
  simp [zrow]
theorem zrow_cpB {n m : Nat} {r : List Rat} (h : r.length = n) : (zrow (n + m)).take m ++ r.take n ++ (zrow (n + m)).drop (m + (r.take n).length) = zrow m ++ r := by
  rw [List.take_of_length_le (l := r) (by omega), h]
  have : n + m - (m + n) = 0 := by omega
  simp [zrow, this]
theorem tab_put {t : List (List Rat)} {S i : Nat} {r : List Rat} {f f' : Nat → List Rat} (hl : t.length = S) (hi : i < S) (h : ∀ a, a < S → t[a]? = some (f a)) (hr : f' i = r) (hf : ∀ a, a < S → a ≠ i → f' a = f a) : (t.set i r).length = S ∧ ∀ a, a < S → (t.set i r)[a]? = some (f' a) := by
  refine ⟨by simp [hl], fun a ha => ?_⟩
  by_cases hai : a = i
  · subst hai; rw [List.getElem?_set_self (by omega), hr]
  · rw [List.getElem?_set_ne (by omega), h a ha, hf a ha hai]
theorem top_mul {n m D : Nat} {t : List (List Rat)} (h : Dim n m t) (hn : 0 < n) (hm : 0 < m) (hg : TabG D t) : MulOf D (topQ n m t) := by
  have key : ∀ {n m : Nat} {t : List (List Rat)}, Dim n m t → 0 < n → TabG D t → MulOf D (mostTo (rload t) n).1 := fun {n m t} h hn hg => by
    obtain ⟨q1, q2⟩ := mostTo_at (rload t) n
    rw [q1, rload_sum h (by omega)]
    exact MulOf.sum fun k _ => hg.ent _ k
  unfold topQ
  split
  · exact key h.turn hm hg.turn
  · exact key h hn hg
theorem sqA_mul {n m D : Nat} {t : List (List Rat)} (hg : TabG D t) {top : Rat} (ht : MulOf D top) (i k : Nat) : MulOf D (sqA n m (ent t) top i k) := by
  unfold sqA
  split
  · split
    · exact hg.ent i k
    · split
      · exact ht.sub (MulOf.sum fun j _ => hg.ent i j)
      · exact MulOf.zero D
  · split
    · split
      · exact ht.sub (MulOf.sum fun j _ => hg.ent j k)
      · exact MulOf.zero D
    · exact hg.ent _ _
theorem square_end {n m D : Nat} {t B : List (List Rat)} {top : Rat} (hd : Dim n m t) (hg : TabG D t) (ht : MulOf D top) (hB : B.length = n + m) (hBa : ∀ a, a < n + m → B[a]? = some (if a < n then rowA n m t top a else if a < n + m then rowB n m t top (a - n) else zrow (n + m))) :
    Dim (n + m) (n + m) B ∧ TabG D B ∧ ∀ i k, i < n + m → k < n + m → ent B i k = sqA n m (ent t) top i k := by
  have he : ∀ i k, i < n + m → k < n + m → ent B i k = sqA n m (ent t) top i k := fun i k hi hk => by
    unfold ent
    rw [hBa i hi]
    simp only [Option.getD_some]
    by_cases h1 : i < n
    · rw [if_pos h1]; exact rowA_get hd h1 hk
    · rw [if_neg h1, if_pos hi]
      have := rowB_get (top := top) hd (i := i - n) (by omega) hk
      rw [show n + (i - n) = i by omega] at this
      exact this
  have hD : Dim (n + m) (n + m) B := ⟨hB, fun r hr => by
    obtain ⟨a, ha⟩ := List.mem_iff_getElem?.1 hr
    have hal : a < n + m := by have := (gsI.1 ha).1; omega
    rw [hBa a hal] at ha
    simp only [Option.some.injEq] at ha
    rw [← ha]
    by_cases h1 : a < n
    · rw [if_pos h1]
      obtain ⟨r', q1, -, q3, -⟩ := hd.at h1
      simp [rowA, q1, q3, zrow]; omega
    · rw [if_neg h1, if_pos hal]
      simp [rowB, zrow, colOf, hd.len]; omega⟩
  refine ⟨hD, fun r hr q hq => ?_, he⟩
  obtain ⟨i, hi, hri⟩ := hD.mem hr
  obtain ⟨r', q1, -, q3, q4, -⟩ := hD.at hi
  have : r' = r := by rw [hri] at q1; exact (Option.some.inj q1).symm
  subst this
  obtain ⟨k, hk⟩ := List.mem_iff_getElem?.1 hq
  have hkl : k < n + m := by have := (gsI.1 hk).1; omega
  have := q4 k
  rw [hk] at this
  simp only [Option.getD_some] at this
  rw [this, he i k hi hkl]
  exact sqA_mul hg ht i k
theorem square_spec {v : Value} {t : List (List Rat)} {n m N D : Nat} {H : SHeap} (hT : QTab H v t) (hd : Dim n m t) (hn : 0 < n) (hm : 0 < m) (hn2 : n < 10000) (hm2 : m < 10000) (h0 : ∀ i k, i < n → k < m → 0 ≤ ent t i k) (hg : TabG D t) (hG : Grid D N (topQ n m t)) :
    SW prog 68 [.agg #[v]] H (fun u H1 => Ext H H1 ∧ ∃ w s, u = .agg #[w] ∧ QTab H1 w s ∧ Dim (n + m) (n + m) s ∧ TabG D s ∧ ∀ i k, i < n + m → k < n + m → ent s i k = sqA n m (ent t) (topQ n m t) i k) := by
  refine SW.cps fun Q hQ => ?_
  have htl := hd.len
  obtain ⟨r0, hr0, hr0m, hr0n, hr0e, hr0s⟩ := hd.at hn
  have hrl : ∀ r ∈ t, r.length < 65536 := fun r h => by have := hd.row r h; omega
  have hszt := tabSz hd hg hG h0 fun i hi => top_row hd hi
  have hdt := hd.turn
  have hgt : TabG D (turn m t) := hg.turn
  have hszk := tabSz hdt hgt hG (fun k i hk hi => by rw [ent_turn hd hi hk]; exact h0 i k hi hk) fun k hk => by
    have := top_col hd hk
    rw [sumTo_congr fun i hi => ent_turn hd hi hk]
    exact this
  apply into_shop_table_square (by simp)
  obtain ⟨a, c, rfl⟩ := Row.len hT
  simp [Z_shop_table_square]
  have hx0 : Ext H (H ++ [.dead, .dead]) := Ext.more H (by simp)
  refine SWt.mk (jobsN_spec (hT.ext hx0) htl) ?_
  rintro u H1 ⟨hx1, rfl⟩
  refine ⟨hx1, ?_⟩
  simp
  refine SWt.mk (machinesN_spec (hT.ext (hx0.tr hx1)) hr0 hr0n) ?_
  rintro u H2 ⟨hx2, rfl⟩
  have hx02 := hx0.tr (hx1.tr hx2)
  simp
  refine SWt.mk (turned_spec (m := m) (hT.ext hx02) (by omega) (by omega) hd.row (by omega)) ?_
  rintro u H3 ⟨hx3, w3, rfl, hw3⟩
  simp
  refine Chkt.mk (by obtain ⟨a, c, rfl⟩ := Row.len hw3; rfl) ?_
  simp
  have hx4 : Ext H3 (H3 ++ [.dead]) := Ext.dead H3
  have hx34 := hx3.tr hx4
  have hx04 := hx02.tr hx34
  refine SWt.mk (most_spec (N := N) (hT.ext hx04) (by omega) (by omega) hrl hszt hG.bits) ?_
  rintro u H5 ⟨hx5, w5, rfl, hw5⟩
  have hx05 := hx04.tr hx5
  simp
  refine Putt.mk hw5.whole ?_
  simp
  have hx6 := Ext.dead H5
  have hx46 := hx4.tr (hx5.tr hx6)
  have hj := mostTo_sz hszt (t := t) (n := n) (by omega) (by omega)
  have hk := mostTo_sz hszk (t := turn m t) (n := m) (by rw [hdt.len]; omega) (by rw [hdt.len]; omega)
  have htl2 := hdt.len
  rw [htl] at hw5
  have hwk : QTab (H5 ++ [.dead]) w3 (turn m t) := hw3.ext hx46
  refine ZXt.join (by kernel_rfl) (fun F7 G7 H7 => Ext (H5 ++ [.dead]) H7 ∧ RatQ H7 (G7 6) (topQ n m t)) ?_ ?_
  · rintro K hK -
    simp
    refine SWt.mk (most_spec (N := N) hwk (by omega) (by omega) (fun r h => by have := hdt.row r h; omega) hszk hG.bits) ?_
    rintro u H7 ⟨hx7, w7, rfl, hw7⟩
    rw [htl2] at hw7
    simp
    refine Putt.mk hw7.whole ?_
    simp
    have hx8 := Ext.dead H7
    refine SWt.mk (qcmp_spec (N := N) (hw7.ext hx8) (hw5.ext (hx6.tr (hx7.tr hx8))) hk hj hG.bits) ?_
    rintro u H9 ⟨hx9, rfl⟩
    simp
    refine Brt.mkD (fun hc => ?_) (fun hc => ?_)
    · have hlt := cmp_gt hc
      simp
      refine Putt.mk hw7.whole ?_
      refine hK _ _ _ ⟨hx7.tr (hx8.tr hx9), ?_⟩
      unfold topQ
      rw [if_pos hlt]
      simpa using hw7.ext (hx8.tr hx9)
    · have hlt := cmp_ngt hc
      refine hK _ _ _ ⟨hx7.tr (hx8.tr hx9), ?_⟩
      unfold topQ
      rw [if_neg hlt]
      simpa using hw5.ext (hx6.tr (hx7.tr (hx8.tr hx9)))
  rintro F7 G7 H7 ⟨hx7, htop⟩
  simp at htop
  have hx07 := hx05.tr (hx6.tr hx7)
  have hT7 := hT.ext hx07
  have hw7 := hwk.ext hx7
  have htsz : SzQ N (topQ n m t) := by
    unfold topQ
    split
    · exact hk
    · exact hj
  have hi1 : IntKind.i64.wrap ((n : Int) + (m : Int)) = ((n + m : Nat) : Int) := by rw [w64 (by omega) (by omega)]; simp
  simp [hi1]
  refine tx_mkS (e := 120) (sz := 1) (by_ := 24) (ag := false) (n := n + m) (kl := .i64) (kc := .i64) (z := .slice none 0 0) (R := EqR) (a := .slice none 0 0) (by simp) (by simp) (by simp) (by rfl) (by rfl) (by simp) (wh_sl _ _ _) (by simp) (by simp) (by decide) (by decide) (by omega) (fun H' => rfl) ?_
  intro oa oc H8 hO8 hx8
  have hl7 : 0 < H7.length := by have := Ext.len hx07; have := Ext.len hx7; simp at this; omega
  have hTab8 := OTab.mk0 (e := 80) (sz := 4) (ag := true) (R := RatQ) hl7 hO8
  simp
  refine tx_lnR (R := EqR) (xs := List.replicate (n + m) (.slice none 0 0)) (by simpa using hO8.row) (by simp) ?_
  simp
  have hzr : ∀ a, (List.replicate (n + m) ([] : List Rat))[a]? = if a < n + m then some [] else none := fun a => by rw [List.getElem?_replicate]
  refine LoopZt.range (by kernel_rfl) (n + m) (by omega) (by simp) (by rfl) (by simp) (by decide) (by decide) (fun i F9 G9 H9 => Ext H7 H9 ∧ ∃ B us, OTab H7.length 120 80 4 true RatQ H9 (.slice oa (n + m) oc) B us ∧ B.length = n + m ∧ ∀ a, a < n + m → B[a]? = some (if a < i then zrow (n + m) else [])) ?_ ?_ ?_
  · exact ⟨hx8, _, _, hTab8, by simp, fun a ha => by rw [hzr, if_pos ha]; simp⟩
  · rintro i F9 G9 H9 hi hF9 ⟨hx9, B, us, hTab9, hB, hBa⟩ K hK
    simp at hF9
    simp [hF9]
    refine SWt.mk (qwhole_spec (n := 0) (by omega) (by omega)) ?_
    rintro z H10 ⟨hx10, hz⟩
    refine tx_bs1R (e := 80) (sz := 4) (ag := true) (z := .agg #[.bool false, .slice none 0 0, .bool false, .slice none 0 0]) (R := RatQ) (a := ((0 : Int) : Rat)) (fun H' hx => by simpa using hz.ext hx) (by simpa using hz.whole) (by simp) (by simp) (by simp) (by rfl) (by first | rfl | simp [flat, flat1]) (by rfl) (by decide) (by decide) ?_
    intro w11 H11 hO11 hx11
    simp [hi1]
    refine SWt.mk (repQ_spec (R := RatQ) (n := n + m) hO11.row (by omega) (fun H u y h => h.whole) (fun H H' s' u y hk h => h.kept hk (by decide))) ?_
    rintro w12 H12 ⟨hx12, hO12⟩
    have hx912 := hx10.tr (hx11.tr hx12)
    have hl9 := Ext.len hx9
    have hl11 := Ext.len (hx10.tr hx11)
    have hTab12 := hTab9.ext hx912
    have hw12 := hO12.wh
    have hul : us.length = n + m := by rw [hTab9.len, hB]
    refine tx_put (k := H7.length) (e := 120) (sz := 1) (ag := false) (n := i) (R := EqR) (xs := us) (a := w12) (by simpa using hTab12.own) (by simp) (by omega) (by simp [EqR]) (by simpa using hw12) (by simp) (fun _ _ _ _ _ h => h) (by simp) (by simp) (by simp) (by decide) ?_
    rintro p13 H13 hO13 hx13 hk13 hl13 -
    simp at hO13 hk13
    have hnew := OTab.putNew (n0 := H11.length) hTab12 (i := i) (row' := List.replicate (n + m) ((0 : Int) : Rat)) (by omega) (fun b h0 hb => (hO12.ge hb h0).1) (fun j u b hu hb h0 => by have := hTab9.lt j u b hu hb h0; omega) (by decide) (hO12.le (by omega)) hO13 hk13 (fun u x h => h.kept hk13 (by decide))
    refine hK _ _ _ (by simp [hF9]) ⟨hx13 _ (Nat.le_refl _) (hx9.tr hx912), _, _, hnew, ?_⟩
    refine tab_put (f' := fun a => if a < i + 1 then zrow (n + m) else []) hB hi hBa (by simp [zrow]) fun a ha hai => ?_
    by_cases h1 : a < i
    · simp [h1, show a < i + 1 by omega]
    · simp [h1, show ¬ a < i + 1 by omega]
  · rintro F9 G9 H9 hF9 ⟨hx9, B, us, hTab9, hB, hBa⟩
    have hBz : ∀ a, a < n + m → B[a]? = some (if a < 0 then rowA n m t (topQ n m t) a else zrow (n + m)) := fun a ha => by rw [hBa a ha, if_pos ha, if_neg (Nat.not_lt_zero a)]
    simp
    refine LoopZt.range (by kernel_rfl) n (by omega) (by simp) (by rfl) (by simp) (by decide) (by decide) (fun i F10 G10 H10 => Ext H7 H10 ∧ ∃ B us, OTab H7.length 120 80 4 true RatQ H10 (.slice oa (n + m) oc) B us ∧ B.length = n + m ∧ ∀ a, a < n + m → B[a]? = some (if a < i then rowA n m t (topQ n m t) a else zrow (n + m))) ?_ ?_ ?_
    · exact ⟨hx9, B, us, hTab9, hB, hBz⟩
    · rintro i F10 G10 H10 hi hF10 ⟨hx10, B, us, hTab10, hB, hBa⟩ K hK
      simp at hF10
      have hBi := hBa i (by omega)
      rw [if_neg (Nat.lt_irrefl i)] at hBi
      refine Exists.elim (hTab10.row_at hBi) fun ui hu => ?_
      refine Exists.elim (hd.at hi) fun ri hr => ?_
      have hri := hr.1
      have hrl' := hr.2.2.1
      have hrq := hr.2.2.2.2
      have hul : us.length = n + m := by rw [hTab10.len, hB]
      have hT10 := hT7.ext hx10
      have hzl : (zrow (n + m)).length = n + m := by simp [zrow]
      simp [hF10]
      refine tx_elem (R := EqR) (xs := us) (n := i) (a := ui) (e := 120) (sz := 1) (ag := false) (by simpa using hTab10.own.row) (by simp) hu.1 (by simp) (by simp) (by simp) (by decide) ?_
      rintro p11 u11 rfl
      simp
      refine tx_elem (R := QRow) (xs := t) (n := i) (a := ri) (e := 120) (sz := 1) (ag := false) (by simpa using hT10) (by simp) hri (by simp) (by simp) (by simp) (by decide) ?_
      intro p12 u12 hu12
      refine tx_cpR (e := 80) (sz := 4) (ag := true) (R := RatQ) (xs := zrow (n + m)) (ys := ri) (u := u11) (j := 0) (m := n + m) (k := H7.length) hu.2 (by simpa [hzl] using hu.2.sub) (by omega) (by simpa using hu12) (fun u y h => h.whole) (fun H' s' u y hk h => h.kept hk (by decide)) (by simp) (by simp) (by simp) (by decide) (by decide) ?_
      rintro H13 hO13 hx13 hk13 - -
      rw [zrow_cpA hrl'] at hO13
      have hTab13 := hTab10.inner hu.1 (by decide) hk13 hO13 (fun u x h => h.kept hk13 (by decide))
      have hxx13 := hx13 _ (Nat.le_refl _) hx10
      have hT13 := hT7.ext hxx13
      have hi2 : IntKind.i64.wrap ((m : Int) + (i : Int)) = ((m + i : Nat) : Int) := by rw [w64 (by omega) (by omega)]; simp
      simp [hF10]
      refine tx_elem (R := EqR) (xs := us) (n := i) (a := u11) (e := 120) (sz := 1) (ag := false) (by simpa using hTab13.own.row) (by simp) hu.1 (by simp) (by simp) (by simp) (by decide) ?_
      rintro p14 u14 rfl
      simp [hi2]
      refine SWt.mk (load_spec (j := i) hT13 hri (by omega) (by omega) (hszt ri hr.2.1).1 (hszt ri hr.2.1).2 hG.bits) ?_
      rintro w15 H15 ⟨hx15, hw15⟩
      refine ⟨hx15, ?_⟩
      simp
      refine SWt.mk (qsub_spec (N := N) (htop.ext (hxx13.tr hx15)) hw15 htsz (hszt.sum hr.2.1) hG.bits) ?_
      rintro w16 H16 ⟨hx16, hw16⟩
      refine ⟨hx16, ?_⟩
      have hx1316 := hx15.tr hx16
      have hTab16 := hTab13.ext hx1316
      have hO16 := Mono.ext (R := OwR H7.length 80 4 true RatQ) hO13 hx1316
      refine tx_put (k := H7.length) (e := 80) (sz := 4) (ag := true) (n := m + i) (R := RatQ) (xs := ri ++ zrow n) (a := topQ n m t - qsum ri) (by simpa using hO16) (by simp) (by simp [zrow]; omega) (by simpa using hw16) (by simpa using hw16.whole) (by simp) (fun H' s' u y hk h => h.kept hk (by decide)) (by simp) (by simp) (by simp) (by decide) ?_
      rintro p17 H17 hO17 hx17 hk17 hl17 -
      simp at hO17 hk17
      have hTab17 := hTab16.inner hu.1 (by decide) hk17 hO17 (fun u x h => h.kept hk17 (by decide))
      rw [List.set_set] at hTab17
      simp
      refine hK _ _ _ (by simp [hF10]) ⟨hx17 _ (Nat.le_refl _) (hxx13.tr hx1316), _, us, hTab17, ?_⟩
      refine tab_put (f' := fun a => if a < i + 1 then rowA n m t (topQ n m t) a else zrow (n + m)) hB (by omega) hBa ?_ fun a ha hai => ?_
      · simp [rowA, hri, hrq]
      · by_cases h1 : a < i
        · simp [h1, show a < i + 1 by omega]
        · simp [h1, show ¬ a < i + 1 by omega]
    · rintro F10 G10 H10 hF10 ⟨hx10, B, us, hTab10, hB, hBa⟩
      have hBb : ∀ a, a < n + m → B[a]? = some (if a < n then rowA n m t (topQ n m t) a else if a < n + 0 then rowB n m t (topQ n m t) (a - n) else zrow (n + m)) := fun a ha => by
        rw [hBa a ha]
        by_cases h1 : a < n
        · simp [h1]
        · simp [h1]
      simp
      refine LoopZt.range (by kernel_rfl) m (by omega) (by simp) (by rfl) (by simp) (by decide) (by decide) (fun i F12 G12 H12 => Ext H7 H12 ∧ ∃ B us, OTab H7.length 120 80 4 true RatQ H12 (.slice oa (n + m) oc) B us ∧ B.length = n + m ∧ ∀ a, a < n + m → B[a]? = some (if a < n then rowA n m t (topQ n m t) a else if a < n + i then rowB n m t (topQ n m t) (a - n) else zrow (n + m))) ?_ ?_ ?_
      · exact ⟨hx10, B, us, hTab10, hB, hBb⟩
      · rintro i F12 G12 H12 hi hF12 ⟨hx12, B, us, hTab12, hB, hBa⟩ K hK
        simp at hF12
        have hBi := hBa (n + i) (by omega)
        rw [if_neg (by omega), if_neg (by omega)] at hBi
        refine Exists.elim (hTab12.row_at hBi) fun ui hu => ?_
        refine Exists.elim (hdt.at hi) fun ri hr => ?_
        have hri := hr.1
        have hrl' := hr.2.2.1
        have hrq := hr.2.2.2.2
        have hul : us.length = n + m := by rw [hTab12.len, hB]
        have hT12 := hw7.ext hx12
        have hzl : (zrow (n + m)).length = n + m := by simp [zrow]
        have hi2 : IntKind.i64.wrap ((n : Int) + (i : Int)) = ((n + i : Nat) : Int) := by rw [w64 (by omega) (by omega)]; simp
        simp [hF12, hi2]
        refine tx_elem (R := EqR) (xs := us) (n := n + i) (a := ui) (e := 120) (sz := 1) (ag := false) (by simpa using hTab12.own.row) (by simp) hu.1 (by simp) (by simp) (by simp) (by decide) ?_
        rintro p11 u11 rfl
        simp
        refine tx_slO (e := 80) (sz := 4) (ag := true) (R := RatQ) (xs := zrow (n + m)) (l := m) (h := n + m) (k := H7.length) (by simpa using hu.2) (by simp) (by simp) (by decide) (by simp [loOf]) (by simp [hiOf, hzl]) (by omega) (by omega) ?_
        intro v12 hv12 hsub
        simp [hzl] at hsub
        simp
        refine tx_elem (R := QRow) (xs := turn m t) (n := i) (a := ri) (e := 120) (sz := 1) (ag := false) (by simpa using hT12) (by simp) hri (by simp) (by simp) (by simp) (by decide) ?_
        intro p13 u13 hu13
        refine tx_cpR (e := 80) (sz := 4) (ag := true) (R := RatQ) (xs := zrow (n + m)) (ys := ri) (u := u11) (j := m) (m := n) (k := H7.length) hu.2 (by simpa [hzl] using hsub) (by omega) (by simpa using hu13) (fun u y h => h.whole) (fun H' s' u y hk h => h.kept hk (by decide)) (by simp) (by simp) (by simp) (by decide) (by decide) ?_
        rintro H13 hO13 hx13 hk13 - -
        rw [zrow_cpB hrl'] at hO13
        have hTab13 := hTab12.inner hu.1 (by decide) hk13 hO13 (fun u x h => h.kept hk13 (by decide))
        have hxx13 := hx13 _ (Nat.le_refl _) hx12
        have hT13 := hw7.ext hxx13
        simp [hF12, hi2]
        refine tx_elem (R := EqR) (xs := us) (n := n + i) (a := u11) (e := 120) (sz := 1) (ag := false) (by simpa using hTab13.own.row) (by simp) hu.1 (by simp) (by simp) (by simp) (by decide) ?_
        rintro p14 u14 rfl
        simp
        refine SWt.mk (load_spec (j := i) hT13 hri (by omega) (by omega) (hszk ri hr.2.1).1 (hszk ri hr.2.1).2 hG.bits) ?_
        rintro w15 H15 ⟨hx15, hw15⟩
        refine ⟨hx15, ?_⟩
        simp
        refine SWt.mk (qsub_spec (N := N) (htop.ext (hxx13.tr hx15)) hw15 htsz (hszk.sum hr.2.1) hG.bits) ?_
        rintro w16 H16 ⟨hx16, hw16⟩
        refine ⟨hx16, ?_⟩
        have hx1316 := hx15.tr hx16
        have hTab16 := hTab13.ext hx1316
        have hO16 := Mono.ext (R := OwR H7.length 80 4 true RatQ) hO13 hx1316
        refine tx_put (k := H7.length) (e := 80) (sz := 4) (ag := true) (n := i) (R := RatQ) (xs := zrow m ++ ri) (a := topQ n m t - qsum ri) (by simpa using hO16) (by simp) (by simp [zrow]; omega) (by simpa using hw16) (by simpa using hw16.whole) (by simp) (fun H' s' u y hk h => h.kept hk (by decide)) (by simp) (by simp) (by simp) (by decide) ?_
        rintro p17 H17 hO17 hx17 hk17 hl17 -
        simp at hO17 hk17
        have hTab17 := hTab16.inner hu.1 (by decide) hk17 hO17 (fun u x h => h.kept hk17 (by decide))
        rw [List.set_set] at hTab17
        have hcol : ri = colOf t i := by
          have : (turn m t)[i]? = some (colOf t i) := by simp [turn, List.getElem?_range hi]
          rw [this] at hri
          exact (Option.some.inj hri).symm
        have hqs : qsum ri = sumTo n (fun j => ent t j i) := by
          rw [hrq]; exact sumTo_congr fun j hj => ent_turn hd hj hi
        simp
        refine hK _ _ _ (by simp [hF12]) ⟨hx17 _ (Nat.le_refl _) (hxx13.tr hx1316), _, us, hTab17, ?_⟩
        refine tab_put (f' := fun a => if a < n then rowA n m t (topQ n m t) a else if a < n + (i + 1) then rowB n m t (topQ n m t) (a - n) else zrow (n + m)) hB (by omega) hBa ?_ fun a ha hai => ?_
        · rw [if_neg (by omega), if_pos (by omega), Nat.add_sub_cancel_left]
          unfold rowB
          rw [← hcol, hqs]
        · by_cases h1 : a < n
          · simp [h1]
          · by_cases h2 : a < n + i
            · simp [h1, h2, show a < n + (i + 1) by omega]
            · simp [h1, h2, show ¬ a < n + (i + 1) by omega]
      · rintro F12 G12 H12 hF12 ⟨hx12, B, us, hTab12, hB, hBa⟩
        have hrow := hTab12.row
        simp [retOf]
        have hend := square_end hd hg (top_mul hd hn hm hg) hB hBa
        exact hQ _ _ ⟨hx07.tr hx12, _, B, rfl, hrow, hend⟩
def ShiftS (H : SHeap) (v : Value) (p : List Nat × List Int) : Prop := ∃ a n c, v = .agg #[.string (bs' p.1), .slice a n c] ∧ Row 3 1 false IR H (.slice a n c) p.2
instance : Mono ShiftS := ⟨fun ⟨a, n, c, h, h1⟩ hx => ⟨a, n, c, h, Mono.ext (R := Row _ _ _ IR) h1 hx⟩⟩
theorem ShiftS.wh {H : SHeap} {v : Value} {p : List Nat × List Int} (h : ShiftS H v p) : Whole prog 93 v := by
  obtain ⟨a, n, c, rfl, -⟩ := h
  exact ⟨by rfl, by simp [Value.cells, Value.oneCell'], by simp [isAg]⟩
theorem ShiftS.kept {H H' : SHeap} {e : Nat} {s v : Value} {p : List Nat × List Int} (h : ShiftS H v p) (hk : Kept H H' s e) (h2 : 3 ≠ e) : ShiftS H' v p := by
  obtain ⟨a, n, c, rfl, q2⟩ := h
  exact ⟨a, n, c, rfl, q2.kept hk h2 fun _ _ h => h⟩
section
variable {P : Program} {r : List XOp} {F : Fr} {H : SHeap} {Q : Fr → SHeap → Prop} {α : Type}
theorem tx_pushS {bb : Bool} {d1 d2 t ts tx e sz by_ k : Nat} {ag : Bool} {s x : Operand} {z : Value} {R : SHeap → Value → α → Prop} {xs : List α} {a : α} {tk : Tok ((⟨bb, none, some d1, .buildSlice t 1 #[(0, x)]⟩ : XOp) :: ap d2 ts tx s (T d1) :: r) Q} (hO : OwR k e sz ag R H (fev F s) xs) (ha : R H (fev F x) a)
    (hw : Whole P e (fev F x)) (hs1 : ∀ v, fev (upd F d1 v) s = fev F s) (hRk : ∀ H' s' u y, Kept H H' s' e → R H u y → R H' u y)
    (ht : P.underlying t = some (.slice e)) (hu : P.underlying ts = some (.slice e)) (hx : srcT P tx = true) (hs : sz? P e = some sz) (hag : aggB P e = some ag) (hb : bytes? P e = some by_) (hz : zero? P e = some z) (hzf : flat z = true) (hzs : z.cells.size = sz) (hsz : 0 < sz) (hsz' : sz ≤ 1000)
    (hby : 0 < by_) (hfit : (xs.length + 1) * by_ ≤ 140737488355328) (hk : k ≤ H.length)
    (K : ∀ p aa cc H', OwR k e sz ag R H' (.slice aa (xs.length + 1) cc) (xs ++ [a]) → (∀ H0 : SHeap, H0.length ≤ k → Ext H0 H → Ext H0 H') → Kept H H' (fev F s) e → XWt P r Q .mk (upd (upd F d1 p) d2 (.slice aa (xs.length + 1) cc)) H') :
    XWt P ((⟨bb, none, some d1, .buildSlice t 1 #[(0, x)]⟩ : XOp) :: ap d2 ts tx s (T d1) :: r) Q tk F H :=
  tx_push hO ha hw hs1 hRk ht hu hx hs hag hb hz hzf hzs hsz hsz' hby hfit hk fun p v' H' hO' q1 q2 => by
    have hl := hO'.len
    rw [List.length_append, List.length_singleton] at hl
    obtain ⟨aa, cc, rfl⟩ := hl
    exact K p aa cc H' hO' q1 q2
end
theorem tx_elemPart {d t d2 n : Nat} {x i : Operand} {r : List XOp} {F : Fr} {H : SHeap} {Q : Fr → SHeap → Prop} {xs : List (Rat × List Int)} {a : Rat × List Int} {tk : Tok (ia d t x i :: ld d2 113 (T d) :: r) Q} (hR : Row 113 5 true PartR H (fev F x) xs) (hi : fev F i = .int .i64 (n : Int)) (ha : xs[n]? = some a)
    (ht : sliceE prog t = some 113) (K : ∀ p s1 a1 n1 c1 s2 a2 n2 c2 a3 c3, RatQ H (.agg #[.bool s1, .slice a1 n1 c1, .bool s2, .slice a2 n2 c2]) a.1 → Row 3 1 false IR H (.slice a3 a.2.length c3) a.2 → XWt prog r Q .mk (upd (upd F d p) d2 (.agg #[.bool s1, .slice a1 n1 c1, .bool s2, .slice a2 n2 c2, .slice a3 a.2.length c3])) H) : XWt prog (ia d t x i :: ld d2 113 (T d) :: r) Q tk F H :=
  tx_elem hR hi ha ht (by rfl) (by rfl) (by decide) fun p u ⟨s1, a1, n1, c1, s2, a2, n2, c2, a3, n3, c3, hu, h1, h2⟩ => by
    subst hu
    obtain ⟨a', c', he⟩ := h2.len
    simp at he
    obtain ⟨rfl, rfl, rfl⟩ := he
    exact K p s1 a1 n1 c1 s2 a2 n2 c2 a3 c3 h1 h2
theorem two_ten (N : Nat) (h : N ≤ 10000) : 2 ^ N ≤ 10 ^ 4000 := by
  have h1 := pwR 2 N 10000 (by decide) h
  have h2 := pwE 2 5 2000 10000 (by decide)
  have h3 := pwE 10 2 2000 4000 (by decide)
  have h4 := pwL (2 ^ 5) (10 ^ 2) 2000 (by decide)
  rw [h3]
  exact Nat.le_trans h1 (by rw [h2]; exact h4)
theorem dec_len {n N : Nat} (h : n < 2 ^ N) (hN : N ≤ 10000) : (dec n).length ≤ 4000 := by
  unfold dec
  split
  · decide
  · rw [List.length_reverse]
    exact rdec_len n 4000 (Nat.lt_of_lt_of_le h (two_ten N hN))
theorem SzQ.numOk {N : Nat} {q : Rat} (h : SzQ N q) (hN : N ≤ 10000) : NumOk q := ⟨dec_len h.1 hN, .inr (dec_len h.2 hN)⟩
theorem Lev.congr {n : Nat} {B B' : Nat → Nat → Rat} {L : Rat} (h : Lev n B L) (e : ∀ i k, i < n → k < n → B' i k = B i k) : Lev n B' L :=
  ⟨fun i k hi hk => by rw [e i k hi hk]; exact h.nn i k hi hk, fun i hi => by rw [← h.row i hi]; exact sumTo_congr fun k hk => e i k hi hk, fun k hk => by rw [← h.col k hk]; exact sumTo_congr fun i hi => e i k hi hk⟩
theorem DecR.congr {n : Nat} {A B : Nat → Nat → Rat} {L : Rat} {ps : List (Rat × List Int)} (h : DecR n A L ps) (e : ∀ i k, i < n → k < n → B i k = A i k) : DecR n B L ps :=
  ⟨h.parts, fun i k hi hk => by rw [h.sum i k hi hk, e i k hi hk], h.len, h.few⟩
def shiftOf (n m : Nat) (p : Rat × List Int) : List Nat × List Int := (numStr p.1, cutJobs n m p.2)
theorem schedule_spec {v : Value} {t : List (List Rat)} {n m N D : Nat} {H : SHeap} (hT : QTab H v t) (hd : Dim n m t) (hn : 0 < n) (hm : 0 < m) (hn2 : n < 10000) (hm2 : m < 10000) (h0 : ∀ i k, i < n → k < m → 0 ≤ ent t i k) (hg : TabG D t) (hG : Grid D N (topQ n m t)) (hN : N ≤ 10000) :
    SW prog 38 [.agg #[v]] H (fun u H1 => Ext H H1 ∧ ∃ w ps, u = .tuple #[w, .int .i64 0] ∧ PlanR n m (ent t) (topQ n m t) ps ∧ (∀ p ∈ ps, MulOf D p.1) ∧ Row 93 2 true ShiftS H1 w (ps.map fun p => (numStr p.1, p.2))) := by
  refine SW.cps fun Q hQ => ?_
  have htl := hd.len
  obtain ⟨r0, hr0, hr0m, hr0n, hr0e, hr0s⟩ := hd.at hn
  apply into_shop_table_schedule (by simp)
  obtain ⟨a, c, rfl⟩ := Row.len hT
  simp [Z_shop_table_schedule]
  have hx0 : Ext H (H ++ [.dead]) := Ext.dead H
  refine SWt.mk (square_spec (hT.ext hx0) hd hn hm hn2 hm2 h0 hg hG) ?_
  rintro u H1 ⟨hx1, w1, s, rfl, hs, hds, hgs, hes⟩
  have hlev : Lev (n + m) (ent s) (topQ n m t) := (sqA_lev h0 (fun i hi => top_row hd hi) (fun k hk => top_col hd hk)).congr hes
  try simp
  refine SWt.mk (decompose_spec (N := N) hs hds (by omega) (by omega) hlev hgs hG) ?_
  rintro u H2 ⟨hx2, ps, hdec, hmp, hps⟩
  have hplan := (hdec.congr fun i k hi hk => (hes i k hi hk).symm).plan
  have hx02 := hx0.tr (hx1.tr hx2)
  have hT2 := hT.ext hx02
  have hl2 : 0 < H2.length := by have := Ext.len hx02; have := Ext.len (hx1.tr hx2); simp at this; omega
  refine tx_lnR (R := PartR) (xs := ps) (by simpa using hps) (by simp) ?_
  try simp
  have hfew : ps.length ≤ (n + m) * (n + m) := hdec.few
  have hfew2 : (n + m) * (n + m) ≤ 20000 * 20000 := Nat.mul_le_mul (by omega) (by omega)
  refine LoopZt.range (by kernel_rfl) ps.length (by omega) (by simp) (by rfl) (by simp) (by decide) (by decide) (fun i F3 G3 H3 => Ext H2 H3 ∧ OwR H2.length 93 2 true ShiftS H3 (F3 4) ((ps.take i).map (shiftOf n m))) ?_ ?_ ?_
  · exact ⟨Ext.refl _, by simpa using OwR.nil _ _ _ _ _ _⟩
  · rintro i F3 G3 H3 hi hF3 ⟨hx3, hO3⟩ K hK
    simp at hF3 hO3
    refine Exists.elim (⟨_, gtE hi⟩ : ∃ p, ps[i]? = some p) fun p hp => ?_
    have hpm := List.mem_of_getElem? hp
    have hper := (hdec.parts p hpm).2
    have hpos := (hdec.parts p hpm).1
    have hsz : SzQ N p.1 := hG.sz (hmp p hpm) (Rat.le_of_lt hpos) (by
      rw [← hdec.len]; exact (plen_pos fun p hp => (hdec.parts p hp).1).2 p hpm)
    simp [hF3]
    refine tx_elemPart (xs := ps) (n := i) (a := p) (by simpa using Mono.ext (R := Row _ _ _ PartR) hps hx3) (by simp [hF3]) hp (by simp) ?_
    intro p4 s1 a1 n1 c1 s2 a2 n2 c2 a3 c3 hq4 hj4
    try simp
    have hxd := Ext.dead H3
    refine SWt.mk (rnum_spec (hq4.ext hxd) hsz (by omega)) ?_
    rintro u H5 ⟨hx5, hu⟩
    rw [if_pos (hsz.numOk hN)] at hu
    subst hu
    have hx35 := hxd.tr hx5
    try simp
    have hx6 := Ext.dead H5
    have hT5 := hT2.ext (hx3.tr (hx35.tr hx6))
    refine SWt.mk (machinesN_spec hT5 hr0 hr0n) ?_
    rintro u H7 ⟨hx7, rfl⟩
    refine ⟨hx7, ?_⟩
    have hx37 := hx35.tr (hx6.tr hx7)
    have hT7 := hT2.ext (hx3.tr hx37)
    have hpl := hper.len
    try simp
    refine tx_slR (e := 3) (sz := 1) (ag := false) (R := IR) (xs := p.2) (l := 0) (h := m) (by simpa using Mono.ext (R := Row _ _ _ IR) hj4 hx37) (by simp) (by simp) (by decide) (by simp [loOf]) (by simp [hiOf]) (by omega) (by omega) ?_
    intro v8 hv8
    have e8 : (p.2.drop 0).take (m - 0) = p.2.take m := by simp
    rw [e8] at hv8
    refine tx_lnR (R := IR) (xs := p.2.take m) (by simpa using hv8) (by simp) ?_
    have hl8 : (p.2.take m).length = m := by simp; omega
    simp [hl8]
    refine LoopZt.range (by kernel_rfl) m (by omega) (by simp [hpl]) (by rfl) (by simp) (by decide) (by decide) (fun j F9 G9 H9 => Ext H7 H9 ∧ ∃ aa cc, G9 9 = .agg #[.string (bs' (numStr p.1)), .slice aa j cc] ∧ OwR H7.length 3 1 false IR H9 (.slice aa j cc) ((cutJobs n m p.2).take j)) ?_ ?_ ?_
    · exact ⟨Ext.refl _, none, 0, by simp, by simpa using OwR.nil _ _ _ _ _ _⟩
    · rintro j F9 G9 H9 hj hF9 ⟨hx9, aa, cc, hG9, hO9⟩ K9 hK9
      simp at hF9 hG9
      refine Exists.elim (hper.job j (by omega)) fun x hx => ?_
      have hx1 := hx.1
      have hx2' := hx.2
      have hpx : (p.2.take m)[j]? = some (x : Int) := by rw [List.getElem?_take_of_lt hj]; exact hx2'
      have hcx : (cutJobs n m p.2)[j]? = some (if (n : Int) ≤ (x : Int) then (-1 : Int) else (x : Int)) := by rw [cutJobs_get, if_pos hj, hx2']; rfl
      have hcl : (cutJobs n m p.2).length = m := hper.cut.len
      try simp [hF9]
      refine tx_elem (R := IR) (xs := p.2.take m) (n := j) (a := (x : Int)) (e := 3) (sz := 1) (ag := false) (by simpa using Mono.ext (R := Row _ _ _ IR) hv8 hx9) (by simp [hF9]) hpx (by simp) (by simp) (by simp) (by decide) ?_
      rintro p10 u10 rfl
      try simp
      have hT9 := hT7.ext hx9
      refine ZXt.join (by kernel_rfl) (fun F11 G11 H11 => Ext H9 H11 ∧ F11 11 = .int .i64 (if (n : Int) ≤ (x : Int) then (-1 : Int) else (x : Int))) ?_ ?_
      · rintro K10 hK10 -
        try simp
        refine SWt.mk (jobsN_spec hT9 htl) ?_
        rintro u H11 ⟨hx11, rfl⟩
        try simp
        refine Brt.mkD (fun hc => ?_) (fun hc => ?_)
        · try simp
          refine hK10 _ _ _ ⟨hx11, ?_⟩
          rw [if_pos (by omega)]; simp
        · refine hK10 _ _ _ ⟨hx11, ?_⟩
          rw [if_neg (by omega)]; simp
      · rintro F11 G11 H11 ⟨hx11, h11⟩
        simp at h11
        have hO11 := Mono.ext (R := OwR H7.length 3 1 false IR) hO9 hx11
        have hl7 := Ext.len (hx9.tr hx11)
        simp [hG9, h11]
        refine tx_pushS (k := H7.length) (e := 3) (sz := 1) (ag := false) (by_ := 8) (z := .int .i64 0) (R := IR) (xs := (cutJobs n m p.2).take j) (a := (if (n : Int) ≤ (x : Int) then (-1 : Int) else (x : Int))) (by simpa using hO11) (by simp [IR, h11]) (by simp [h11]; split <;> exact wh_int _) (by simp) (fun _ _ _ _ _ h => h) (by simp) (by simp) (by simp) (by simp) (by simp) (by rfl) (by rfl) (by rfl) (by rfl) (by decide) (by decide) (by decide) (by simp; omega) (by omega) ?_
        intro p12 a12 c12 H12 hO12 hx12 hk12
        have hjl : ((cutJobs n m p.2).take j).length = j := by simp; omega
        rw [hjl] at hO12
        simp [hG9, hjl]
        refine hK9 _ _ _ (by simp [hF9]) ⟨hx12 _ (Nat.le_refl _) (hx9.tr hx11), a12, c12, by simp, ?_⟩
        rw [List.take_add_one, hcx]
        exact hO12
    · rintro F9 G9 H9 hF9 ⟨hx9, aa, cc, hG9, hO9⟩
      simp at hG9
      have hcl : (cutJobs n m p.2).length = m := hper.cut.len
      have hO9' : OwR H7.length 3 1 false IR H9 (.slice aa m cc) (cutJobs n m p.2) := by
        rw [← List.take_of_length_le (l := cutJobs n m p.2) (i := m) (by omega)]; exact hO9
      have hx39 := hx37.tr hx9
      have hSh : ShiftS H9 (.agg #[.string (bs' (numStr p.1)), .slice aa m cc]) (shiftOf n m p) := ⟨aa, m, cc, rfl, hO9'.row⟩
      have hlen9 := Ext.len (hx3.tr hx39)
      simp [hG9]
      refine tx_push (k := H2.length) (e := 93) (sz := 2) (ag := true) (by_ := 40) (z := .agg #[.string ⟨#[]⟩, .slice none 0 0]) (R := ShiftS) (xs := (ps.take i).map (shiftOf n m)) (a := shiftOf n m p) (by simpa using Mono.ext (R := OwR _ _ _ _ ShiftS) hO3 hx39) (by simpa using hSh) (by simpa using hSh.wh) (by simp) (fun H' s' u y hk h => h.kept hk (by decide)) (by simp) (by simp) (by simp) (by simp) (by simp) (by rfl) (by rfl) (by first | rfl | simp [flat, flat1]) (by rfl) (by decide) (by decide) (by decide) (by simp; omega) (by omega) ?_
      intro p13 v13 H13 hO13 hx13 hk13
      try simp
      refine hK _ _ _ (by simp [hF3]) ⟨hx13 _ (Nat.le_refl _) (hx3.tr hx39), ?_⟩
      rw [List.take_add_one, hp, List.map_append]
      simpa using hO13
  · rintro F3 G3 H3 hF3 ⟨hx3, hO3⟩
    simp at hO3
    have hrow := hO3.row
    have e : ps.map (shiftOf n m) = (ps.map fun p => (p.1, cutJobs n m p.2)).map fun p => (numStr p.1, p.2) := by
      rw [List.map_map]; rfl
    rw [e] at hrow
    simp [retOf]
    refine hQ _ _ ⟨hx02.tr hx3, _, _, rfl, hplan, fun p hp => ?_, hrow⟩
    rw [List.mem_map] at hp
    obtain ⟨q, hq, rfl⟩ := hp
    exact hmp q hq
theorem qt_dim {t : List (List Int)} {n m : Nat} (hn : t.length = n) (hm : ∀ r ∈ t, r.length = m) : Dim n m (qt t) :=
  ⟨by simp [qt, hn], fun r hr => by
    unfold qt at hr
    rw [List.mem_map] at hr
    obtain ⟨r', hr', rfl⟩ := hr
    simpa using hm r' hr'⟩
theorem qt_ent (t : List (List Int)) (i k : Nat) : ent (qt t) i k = (((t[i]?.getD [])[k]?.getD 0 : Int) : Rat) := by
  unfold ent qt
  rw [List.getElem?_map]
  cases hr : t[i]? with
  | none => simp
  | some r =>
    simp only [Option.map_some, Option.getD_some, List.getElem?_map]
    cases r[k]? <;> simp
theorem qt_mul (t : List (List Int)) : TabG 1 (qt t) := fun r hr q hq => by
  unfold qt at hr
  rw [List.mem_map] at hr
  obtain ⟨r', hr', rfl⟩ := hr
  rw [List.mem_map] at hq
  obtain ⟨x, hx, rfl⟩ := hq
  exact MulOf.int x
theorem SmallI.nn {t : List (List Int)} (h : SmallI t) (i k : Nat) : 0 ≤ ent (qt t) i k := by
  rw [qt_ent]
  have : (0 : Int) ≤ (t[i]?.getD [])[k]?.getD 0 := by
    cases hr : t[i]? with
    | none => simp
    | some r =>
      simp only [Option.getD_some]
      cases hx : r[k]? with
      | none => simp
      | some x => exact ((h r (List.mem_of_getElem? hr)).2 x (List.mem_of_getElem? hx)).1
  exact_mod_cast this
theorem topQ_int {t : List (List Int)} {n m : Nat} (hn : t.length = n) (hm : (t[0]?.getD []).length = m) (h : SmallI t) (hl : t.length ≤ 1000) : topQ n m (qt t) = (((boundQ t).1 : Int) : Rat) ∧ (boundQ t).1.natAbs ≤ 1000000000 := by
  have key : ∀ {t : List (List Int)} (n : Nat), (mostTo (rload (qt t)) n).1 = ((mostTo (rload (qt t)) n).1.num : Rat) := fun {t} n => by
    rw [(mostTo_at _ n).1, rload_int, Rat.num_intCast]
  have b1 := most_int h n
  have b2 := most_int (h.turn (m := m) hl) m
  unfold topQ boundQ
  rw [qt_turn, hn, hm]
  simp only
  split
  · exact ⟨key m, b2⟩
  · exact ⟨key n, b1⟩
theorem plan_spec {v : Value} {t : List (List Int)} {H : SHeap} (hT : Iss H v t) (hl : t.length < 65536) (hr : ∀ r ∈ t, r.length < 65536) :
    SW prog 10 [v] H (fun u H1 => Ext H H1 ∧ (ValidT t → ∃ w ps, u = .tuple #[w, .int .i64 0] ∧ PlanR t.length (t[0]?.getD []).length (ent (qt t)) (((boundQ t).1 : Int) : Rat) ps ∧ (∀ p ∈ ps, MulOf 1 p.1) ∧ Row 93 2 true ShiftS H1 w (ps.map fun p => (numStr p.1, p.2))) ∧ (¬ ValidT t → u = .tuple #[.slice none 0 0, .int .i64 1])) := by
  refine SW.cps fun Q hQ => ?_
  obtain ⟨m, hm⟩ : ∃ m, m = (t[0]?.getD []).length := ⟨_, rfl⟩
  apply into_shop_Plan (by simp)
  simp [Z_shop_Plan]
  refine SWt.mk (valid_spec hT (by omega) fun r h => by have := hr r h; omega) ?_
  rintro u H1 ⟨hx1, rfl⟩
  simp
  refine Brt.mk (fun hv => ?good) (fun hv => ?bad)
  case bad =>
    simp at hv
    simp [retOf]
    exact hQ _ _ ⟨hx1, fun h => absurd h hv, fun _ => rfl⟩
  simp at hv
  have hs := hv.small
  have hml := hv.len
  have v1 := hv.1
  have v2 := hv.2.1
  have v3 := hv.2.2.1
  have v4 := hv.2.2.2.1
  rw [← hm] at hml v3 v4
  have htop := topQ_int rfl hm.symm hs (by omega)
  simp
  refine SWt.mk (readQ_spec (hT.ext hx1).row (by omega) hr fun r h x hx => by have := (hs r h).2 x hx; omega) ?_
  rintro _ H2 ⟨hx2, au, cu, rfl, hQT⟩
  simp
  refine SWt.mk (schedule_spec (n := t.length) (m := m) (N := 64) (D := 1) hQT (qt_dim rfl hml) (by omega) (by omega) (by omega) (by omega) (fun i k _ _ => hs.nn i k) (qt_mul t) (by rw [htop.1]; exact Grid.int (by have := htop.2; omega) (by decide) (by decide)) (by decide)) ?_
  rintro u H3 ⟨hx3, w, ps, rfl, hp1, hp2, hp3⟩
  rw [htop.1] at hp1
  simp [retOf]
  refine hQ _ _ ⟨hx1.tr (hx2.tr hx3), fun _ => ⟨w, ps, rfl, ?_, hp2, hp3⟩, fun h => absurd hv h⟩
  rw [← hm]
  exact hp1
theorem indexI_spec {v : Value} {l : List Int} {x : Int} {H : SHeap} (hI : IRow H v l) (hl : l.length < 65536) :
    SW prog 103 [v, .int .i64 x] H (fun u H1 => H1 = H ∧ ∃ r : Int, u = .int .i64 r ∧ (0 ≤ r ↔ x ∈ l)) := by
  refine SW.cps fun Q hQ => ?_
  apply into_slices_Index_Sint_int (by simp)
  obtain ⟨a, c, rfl⟩ := Row.len hI
  simp [Z_slices_Index_Sint_int]
  refine tx_lnR (R := IR) (xs := l) (by simpa using hI) (by simp) ?_
  simp
  refine LoopZt.range (by kernel_rfl) l.length (by omega) (by simp) (by rfl) (by simp) (by decide) (by decide) (fun i F2 G2 H2 => H2 = H ∧ x ∉ l.take i) ?_ ?_ ?_
  · exact ⟨rfl, by simp⟩
  · rintro i F2 G2 H2 hi hF2 ⟨rfl, hx⟩ K hK
    simp at hF2
    refine Exists.elim (⟨_, gtE hi⟩ : ∃ y, l[i]? = some y) fun y hy => ?_
    simp [hF2]
    refine tx_elem (R := IR) (xs := l) (n := i) (a := y) (e := 3) (sz := 1) (ag := false) (by simpa using hI) (by simp) hy (by simp) (by simp) (by simp) (by decide) ?_
    rintro p3 u3 rfl
    simp
    refine Brt.mkD (fun hc => ?_) (fun hc => ?_)
    · simp [hF2, retOf]
      exact hQ _ _ ⟨rfl, _, rfl, by simp; rw [hc]; exact List.mem_of_getElem? hy⟩
    · try simp
      refine hK _ _ _ (by simp [hF2]) ⟨rfl, ?_⟩
      rw [List.take_add_one, hy, List.mem_append]
      simp [hx, hc]
  · rintro F2 G2 H2 hF2 ⟨rfl, hx⟩
    simp at hx
    simp [retOf]
    exact hQ _ _ ⟨rfl, -1, rfl, by simp [hx]⟩
theorem containsI_spec {v : Value} {l : List Int} {x : Int} {H : SHeap} (hI : IRow H v l) (hl : l.length < 65536) :
    SW prog 76 [v, .int .i64 x] H (fun u H1 => H1 = H ∧ u = .bool (decide (x ∈ l))) := by
  refine SW.cps fun Q hQ => ?_
  apply into_slices_Contains_Sint_int (by simp)
  simp [Z_slices_Contains_Sint_int]
  refine SWt.mk (indexI_spec hI hl) ?_
  rintro u H1 ⟨rfl, r, rfl, hr⟩
  simp [retOf]
  exact hQ _ _ ⟨rfl, by simp [hr]⟩
def valS (l : List Nat) : Rat := Rat.divInt (numL l) (denL l)
def ShOk (n m : Nat) (p : List Nat × List Int) : Prop := (ParseOk p.1 ∧ 0 < valS p.1 ∧ p.2.length = m) ∧ JobsOk n m p.2
def parts (sh : List (List Nat × List Int)) : List (Rat × List Int) := sh.map fun p => (valS p.1, p.2)
def JobAt (n : Nat) (l : List Int) (k : Nat) : Prop := ∃ x, l[k]? = some x ∧ -1 ≤ x ∧ x < n ∧ (0 ≤ x → x ∉ l.take k)
theorem count_take_one {l : List Int} {x : Int} : (∀ k, l[k]? = some x → x ∉ l.take k) ↔ l.count x ≤ 1 := by
  constructor
  · intro h
    by_cases hm : x ∈ l
    · obtain ⟨k, hk⟩ := List.mem_iff_getElem?.1 hm
      have hkl := (gsI.1 hk).1
      have h1 := h k hk
      have h2 : x ∉ l.drop (k + 1) := fun hd => by
        obtain ⟨j, hj⟩ := List.mem_iff_getElem?.1 hd
        rw [List.getElem?_drop] at hj
        refine h _ hj (List.mem_iff_getElem?.2 ⟨k, ?_⟩)
        rw [List.getElem?_take_of_lt (by omega)]
        exact hk
      have e : l = l.take k ++ l[k] :: l.drop (k + 1) := by rw [List.getElem_cons_drop hkl, List.take_append_drop]
      rw [e, List.count_append, List.count_cons, List.count_eq_zero.2 h1, List.count_eq_zero.2 h2]
      split <;> omega
    · rw [List.count_eq_zero.2 hm]; omega
  · intro h k hk hm
    have hkl := (gsI.1 hk).1
    have e : l = l.take k ++ l[k] :: l.drop (k + 1) := by rw [List.getElem_cons_drop hkl, List.take_append_drop]
    have hx : l[k] = x := (gsI.1 hk).2
    rw [e, List.count_append, List.count_cons, hx] at h
    have := List.count_pos_iff.2 hm
    simp at h
    omega
theorem jobsOk_iff {n m : Nat} {l : List Int} : JobsOk n m l ↔ l.length = m ∧ ∀ k, k < m → JobAt n l k := by
  constructor
  · intro h
    refine ⟨h.len, fun k hk => ?_⟩
    rcases h.rng k hk with h1 | ⟨j, hj, h1⟩
    · exact ⟨-1, h1, by omega, by omega, fun h => by omega⟩
    · exact ⟨j, h1, by omega, by omega, fun _ => count_take_one.2 (h.inj j hj) k h1⟩
  · rintro ⟨hl, h⟩
    refine ⟨hl, fun k hk => ?_, fun j hj => count_take_one.1 fun k hk => ?_⟩
    · obtain ⟨x, h1, h2, h3, h4⟩ := h k hk
      by_cases hx : x = -1
      · exact .inl (hx ▸ h1)
      · exact .inr ⟨x.toNat, by omega, by rw [h1]; congr 1; omega⟩
    · obtain ⟨x, h1, h2, h3, h4⟩ := h k (by have := (gsI.1 hk).1; omega)
      rw [h1] at hk
      have := Option.some.inj hk
      subst this
      exact h4 (by omega)
theorem ten_two : (10 : Nat) ^ 4000 ≤ 2 ^ 13288 := pwC 10 500 2 1661 8 4000 13288 (by decide) (by decide) (by decide +kernel)
theorem dval_sz {l : List Nat} (h : DigsOk l) : dval l < 2 ^ 13288 := by
  have h1 := dval_lt h.1
  have h2 := pwR 10 l.length 4000 (by decide) h.2.2.2
  exact Nat.lt_of_lt_of_le h1 (Nat.le_trans h2 ten_two)
theorem valS_sz {l : List Nat} (h : ParseOk l) : SzQ 13288 (valS l) := by
  obtain ⟨h1, h2, h3, h4⟩ := h
  have hd : denL l ≠ 0 ∧ denL l < 2 ^ 13288 := by
    unfold denL
    cases hu : underL l with
    | none => exact ⟨by decide, pwO 13288 (by decide)⟩
    | some u =>
      obtain ⟨q1, q2⟩ := h2 u hu
      exact ⟨by simp only; omega, dval_sz q1⟩
  refine SzQ.divInt hd.1 ?_ hd.2
  unfold numL
  have := dval_sz h1
  split
  · rw [Int.natAbs_neg, Int.natAbs_natCast]; exact this
  · rw [Int.natAbs_natCast]; exact this
def szS (s : Nat) : Nat := 13290 * s + 1
theorem szS_zero : SzQ (szS 0) 0 := ⟨by simp [szS], by simp [szS]⟩
theorem szS_add {s : Nat} {a b : Rat} (ha : SzQ (szS s) a) (hb : SzQ 13288 b) : SzQ (szS (s + 1)) (a + b) := (ha.add hb).mono (by unfold szS; omega)
theorem plen_snoc (ps : List (Rat × List Int)) (p : Rat × List Int) : plen (ps ++ [p]) = plen ps + p.1 := by
  rw [plen_append]; simp only [plen]; grind
theorem psum_snoc (ps : List (Rat × List Int)) (p : Rat × List Int) (i k : Nat) : psum (ps ++ [p]) i k = psum ps i k + ofPart p i k := by
  rw [psum_append]; simp only [psum]; grind
theorem parts_take {sh : List (List Nat × List Int)} {s : Nat} {p : List Nat × List Int} (h : sh[s]? = some p) : parts (sh.take (s + 1)) = parts (sh.take s) ++ [(valS p.1, p.2)] := by
  unfold parts
  rw [List.take_add_one, h, List.map_append]; rfl
theorem sums_sz {sh : List (List Nat × List Int)} (h : ∀ p ∈ sh, ParseOk p.1) : SzQ (szS sh.length) (plen (parts sh)) ∧ ∀ i k, SzQ (szS sh.length) (psum (parts sh) i k) := by
  induction sh with
  | nil => exact ⟨szS_zero, fun _ _ => szS_zero⟩
  | cons p sh ih =>
    obtain ⟨h1, h2⟩ := ih fun q hq => h q (by simp [hq])
    have h3 := valS_sz (h p (by simp))
    refine ⟨?_, fun i k => ?_⟩
    · have := szS_add h1 h3
      rw [Rat.add_comm] at this
      exact this
    · have hp : SzQ 13288 (ofPart (valS p.1, p.2) i k) := by
        unfold ofPart
        split
        · exact h3
        · exact ⟨Nat.two_pow_pos 13288, pwO 13288 (by decide)⟩
      have := szS_add (h2 i k) hp
      rw [Rat.add_comm] at this
      exact this
theorem IRow.whole {H : SHeap} {u : Value} {y : List Int} (h : IRow H u y) : Whole prog 34 u := by
  obtain ⟨a, c, rfl⟩ := Row.len h
  exact ⟨by rfl, by rfl, by simp [isAg]⟩
theorem IRow.kept {H H' : SHeap} {e : Nat} {s u : Value} {y : List Int} (h : IRow H u y) (hk : Kept H H' s e) (hne : 3 ≠ e) : IRow H' u y := Row.kept h hk hne fun _ _ h => h
theorem tx_elemShift {d t d2 n : Nat} {x i : Operand} {r : List XOp} {F : Fr} {H : SHeap} {Q : Fr → SHeap → Prop} {xs : List (List Nat × List Int)} {a : List Nat × List Int} {tk : Tok (ia d t x i :: ld d2 93 (T d) :: r) Q} (hR : Row 93 2 true ShiftS H (fev F x) xs) (hi : fev F i = .int .i64 (n : Int)) (ha : xs[n]? = some a)
    (ht : sliceE prog t = some 93) (K : ∀ p a3 c3, IRow H (.slice a3 a.2.length c3) a.2 → XWt prog r Q .mk (upd (upd F d p) d2 (.agg #[.string (bs' a.1), .slice a3 a.2.length c3])) H) : XWt prog (ia d t x i :: ld d2 93 (T d) :: r) Q tk F H :=
  tx_elem hR hi ha ht (by rfl) (by rfl) (by decide) fun p u ⟨a3, n3, c3, hu, h2⟩ => by
    subst hu
    obtain ⟨a', c', he⟩ := h2.len
    simp at he
    obtain ⟨rfl, rfl, rfl⟩ := he
    exact K p a3 c3 h2
def doneTo (sh : List (List Nat × List Int)) (s : Nat) (p : Rat × List Int) (i j k : Nat) : Rat := psum (parts (sh.take s)) j k + if k < i then ofPart p j k else 0
theorem doneTo_zero (sh : List (List Nat × List Int)) (s : Nat) (p : Rat × List Int) (j k : Nat) : doneTo sh s p 0 j k = psum (parts (sh.take s)) j k := by
  unfold doneTo
  rw [if_neg (Nat.not_lt_zero k)]
  exact Rat.add_zero _
theorem doneTo_end {sh : List (List Nat × List Int)} {s m : Nat} {p : List Nat × List Int} (hp : sh[s]? = some p) {j k : Nat} (hk : k < m) : doneTo sh s (valS p.1, p.2) m j k = psum (parts (sh.take (s + 1))) j k := by
  unfold doneTo
  rw [if_pos hk, parts_take hp, psum_snoc]
theorem doneTo_next {sh : List (List Nat × List Int)} {s i : Nat} {p : Rat × List Int} {x : Int} (hx : p.2[i]? = some x) (j k : Nat) : doneTo sh s p (i + 1) j k = doneTo sh s p i j k + if k = i ∧ x = (j : Int) then p.1 else 0 := by
  unfold doneTo ofPart
  by_cases h1 : k < i
  · rw [if_pos h1, if_pos (by omega), if_neg (by omega : ¬ (k = i ∧ x = (j : Int)))]
    exact (Rat.add_zero _).symm
  · by_cases h2 : k = i
    · subst h2
      rw [if_neg h1, if_pos (by omega), hx]
      simp only [Option.some.injEq, true_and]
      split <;> grind
    · rw [if_neg h1, if_neg (by omega), if_neg (fun h => h2 h.1)]
      exact (Rat.add_zero _).symm
theorem doneTo_sz {sh : List (List Nat × List Int)} {s i : Nat} {p : List Nat × List Int} (h : ∀ j k, SzQ (szS s) (psum (parts (sh.take s)) j k)) (hp : ParseOk p.1) (j k : Nat) : SzQ (szS (s + 1)) (doneTo sh s (valS p.1, p.2) i j k) := by
  unfold doneTo
  have h1 := valS_sz hp
  refine szS_add (h j k) ?_
  unfold ofPart
  have h0 : SzQ 13288 (0 : Rat) := ⟨Nat.two_pow_pos 13288, pwO 13288 (by decide)⟩
  split
  · split
    · exact h1
    · exact h0
  · exact h0
theorem done_spec {v : Value} {sh : List (List Nat × List Int)} {n m : Nat} {H : SHeap} (hP : Row 93 2 true ShiftS H v sh) (hB : ∀ p ∈ sh, Bytes p.1) (hlen : ∀ p ∈ sh, p.1.length < 4611686018427387904 ∧ p.2.length < 65536) (hsh : sh.length ≤ 2000) (hn : 0 < n) (hm : 0 < m) (hn2 : n < 1000) (hm2 : m < 1000) :
    SW prog 47 [v, .int .i64 n, .int .i64 m] H (fun u H1 => Ext H H1 ∧ ∃ ta tn tc lv b, u = .tuple #[.agg #[.slice ta tn tc], lv, .bool b] ∧ Whole prog 80 lv ∧ (b = true ↔ (∀ p ∈ sh, ShOk n m p) ∧ sh.length ≤ 1000) ∧ (b = true → ∃ B, QTab H1 (.slice ta tn tc) B ∧ Dim n m B ∧ (∀ j k, j < n → k < m → ent B j k = psum (parts sh) j k) ∧ RatQ H1 lv (plen (parts sh)))) := by
  refine SW.cps fun Q hQ => ?_
  apply into_shop_done (by simp)
  obtain ⟨a, c, rfl⟩ := Row.len hP
  simp [Z_shop_done]
  have hx0 : Ext H (H ++ [.dead, .dead]) := Ext.more H (by simp)
  refine tx_mkS (e := 3) (sz := 1) (by_ := 8) (ag := false) (n := m) (kl := .i64) (kc := .i64) (z := .int .i64 0) (R := IR) (a := 0) (by simp) (by simp) (by simp) (by rfl) (by rfl) (by simp) (wh_int 0) (by simp) (by simp) (by decide) (by decide) (by omega) (fun H' => rfl) ?_
  intro za zc H1 hO1 hx1
  have hz1 : IRow H1 (.slice za m zc) (List.replicate m 0) := hO1.row
  refine tx_bs1R (e := 34) (sz := 1) (ag := false) (z := .slice none 0 0) (R := IRow) (a := List.replicate m 0) (fun H' hx => by simpa using Mono.ext (R := IRow) hz1 hx) (by simpa using hz1.whole) (by simp) (by simp) (by simp) (by rfl) (by rfl) (by rfl) (by decide) (by decide) ?_
  intro w2 H2 hO2 hx2
  simp
  refine SWt.mk (repS_spec (R := IRow) (n := n) hO2.row (by omega) (fun H u y h => h.whole) (fun H H' s' u y hk h => h.kept hk (by decide))) ?_
  rintro w3 H3 ⟨hx3, hO3⟩
  have hT3 : ITab H3 w3 (List.replicate n (List.replicate m 0)) := hO3.row
  simp
  refine SWt.mk (readO_spec hT3 (by simp; omega) (fun r h => by rw [List.mem_replicate] at h; rw [h.2]; simp; omega) (fun r h x hx => by rw [List.mem_replicate] at h; rw [h.2, List.mem_replicate] at hx; rw [hx.2]; decide)) ?_
  rintro _ H4 ⟨hx4, oa, oc, us, rfl, hTab4⟩
  simp
  refine SWt.mk (qwhole_spec (n := 0) (by omega) (by omega)) ?_
  rintro lv0 H5 ⟨hx5, hlv0⟩
  simp
  refine Putt.mk hlv0.whole ?_
  rw [List.length_replicate] at hTab4
  have hx6 : Ext H5 (H5 ++ [.dead, .dead]) := Ext.more H5 (by simp)
  have hx46 := hx5.tr hx6
  have hx36 := hx4.tr hx46
  have hx03 := hx0.tr (hx1.tr (hx2.tr hx3))
  have hTab6 := hTab4.ext hx46
  simp
  refine tx_lnR (R := ShiftS) (xs := sh) (by simpa using Mono.ext (R := Row _ _ _ ShiftS) hP (hx03.tr hx36)) (by simp) ?_
  simp
  have fail : ∀ lv Hx, Whole prog 80 lv → Ext H Hx → (¬ ∀ p ∈ sh, ShOk n m p) → Q (.tuple #[.agg #[.slice none 0 0], lv, .bool false]) Hx := fun lv Hx hw hx hno => hQ _ _ ⟨hx, none, 0, 0, lv, false, rfl, hw, ⟨fun h => (by cases h), fun h => absurd h.1 hno⟩, fun h => by cases h⟩
  refine LoopZt.range (by kernel_rfl) sh.length (by omega) (by simp) (by rfl) (by simp) (by decide) (by decide) (fun s F7 G7 H7 => Ext H3 H7 ∧ (∀ p ∈ sh.take s, ShOk n m p) ∧ RatQ H7 (G7 10) (plen (parts (sh.take s))) ∧ ∃ B, OTab (H3.length + 1) 120 80 4 true RatQ H7 (.slice oa n oc) B us ∧ Dim n m B ∧ ∀ j k, j < n → k < m → ent B j k = psum (parts (sh.take s)) j k) ?_ ?_ ?_
  · refine ⟨hx36, by simp, by simpa [parts, plen] using hlv0.ext hx6, _, hTab6, qt_dim (by simp) (fun r h => by rw [List.mem_replicate] at h; rw [h.2]; simp), fun j k hj hk => ?_⟩
    rw [qt_ent]
    simp [hj, hk, parts, psum]
  · rintro s F7 G7 H7 hs hF7 ⟨hx7, hok7, hlv7, B, hTab7, hd7, he7⟩ K hK
    simp at hF7 hlv7
    refine Exists.elim (⟨_, gtE hs⟩ : ∃ p, sh[s]? = some p) fun p hp => ?_
    have hpm := List.mem_of_getElem? hp
    have hpB := hB p hpm
    have hpl := hlen p hpm
    have hH7 := hx03.tr hx7
    have hszs := sums_sz (sh := sh.take s) fun q hq => (hok7 q hq).1.1
    have hsl : (sh.take s).length = s := by simp; omega
    rw [hsl] at hszs
    simp [hF7]
    refine tx_elemShift (xs := sh) (n := s) (a := p) (by simpa using Mono.ext (R := Row _ _ _ ShiftS) hP hH7) (by simp [hF7]) hp (by simp) ?_
    intro p8 a8 c8 hj8
    simp
    have hxd := Ext.dead H7
    refine SWt.mk (parse_spec hpB hpl.1) ?_
    rintro u H9 ⟨hx9, pv, (⟨hpok, rfl, hpv⟩ | ⟨hno, rfl⟩), s1, a1, n1, c1, s2, a2, n2, c2, rfl⟩
    · have hx79 := hxd.tr hx9
      have hqs : RatQ H9 (.agg #[.bool s1, .slice a1 n1 c1, .bool s2, .slice a2 n2 c2]) (valS p.1) := hpv
      have hqsz := valS_sz hpok
      simp
      have hx10 := Ext.dead H9
      have hx710 := hx79.tr hx10
      refine ZXt.join (by kernel_rfl) (fun F11 G11 H11 => Ext (H9 ++ [.dead]) H11 ∧ F11 49 = .bool (!decide (0 < valS p.1 ∧ p.2.length = m))) ?_ ?_
      · rintro K2 hK2 -
        simp
        refine SWt.mk (qsign_spec (hqs.ext hx10)) ?_
        rintro u H11 ⟨hx11, rfl⟩
        by_cases hpos : 0 < valS p.1
        · have hsg : ¬ ((if valS p.1 < 0 then (-1 : Int) else if valS p.1 = 0 then 0 else 1) ≤ 0) := fun h => Rat.not_lt.2 (sign_le.1 h) hpos
          simp [hsg]
          refine tx_lnR (R := IR) (xs := p.2) (by simpa using Mono.ext (R := IRow) hj8 (hx710.tr hx11)) (by simp) ?_
          simp
          refine hK2 _ _ _ ⟨hx11, ?_⟩
          simp [hpos]
          try omega
        · have hsg : ((if valS p.1 < 0 then (-1 : Int) else if valS p.1 = 0 then 0 else 1) ≤ 0) := sign_le.2 (Rat.not_lt.1 hpos)
          simp [hsg]
          refine hK2 _ _ _ ⟨hx11, ?_⟩
          simp [hpos]
      · rintro F11 G11 H11 ⟨hx11, h49⟩
        simp at h49
        have hx711 := hx710.tr hx11
        have hlv11 := hlv7.ext hx711
        have hx311 := hx7.tr hx711
        simp [h49]
        refine Brt.mk (fun hb => ?_) (fun hb => ?_)
        · simp at hb
          simp [retOf]
          refine Putt.mk hlv11.whole ?_
          simp [retOf]
          refine fail _ _ hlv11.whole (hx03.tr hx311) fun hall => ?_
          have := (hall p hpm).1
          rcases hb with hb | hb
          · exact hb this.2.1
          · exact hb this.2.2
        · simp at hb
          have hpos := hb.1
          have hpm' := hb.2
          have hq11 := hqs.ext (hx10.tr hx11)
          have hj11 := Mono.ext (R := IRow) hj8 hx711
          have hTab11 := hTab7.ext hx711
          have hszj := hszs.2
          simp
          refine tx_lnR (R := IR) (xs := p.2) (by simpa using hj11) (by simp) ?_
          simp
          refine LoopZt.range (by kernel_rfl) p.2.length (by omega) (by simp) (by rfl) (by simp) (by decide) (by decide) (fun i F12 G12 H12 => Ext H3 H12 ∧ (∀ k, k < i → JobAt n p.2 k) ∧ RatQ H12 (G7 10) (plen (parts (sh.take s))) ∧ RatQ H12 (.agg #[.bool s1, .slice a1 n1 c1, .bool s2, .slice a2 n2 c2]) (valS p.1) ∧ IRow H12 (.slice a8 p.2.length c8) p.2 ∧ ∃ B, OTab (H3.length + 1) 120 80 4 true RatQ H12 (.slice oa n oc) B us ∧ Dim n m B ∧ ∀ j k, j < n → k < m → ent B j k = doneTo sh s (valS p.1, p.2) i j k) ?_ ?_ ?_
          · exact ⟨hx311, fun k hk => by omega, hlv11, hq11, hj11, B, hTab11, hd7, fun j k hj hk => by rw [he7 j k hj hk]; exact (doneTo_zero _ _ _ _ _).symm⟩
          · rintro i F12 G12 H12 hi hF12 ⟨hx12, hja, hlv12, hq12, hj12, B, hTab12, hd12, he12⟩ K3 hK3
            simp at hF12
            refine Exists.elim (⟨_, gtE hi⟩ : ∃ x, p.2[i]? = some x) fun x hx => ?_
            refine ZXt.join (by kernel_rfl) (fun F14 G14 H14 => Ext H3 H14 ∧ (∀ k, k < i + 1 → JobAt n p.2 k) ∧ RatQ H14 (G7 10) (plen (parts (sh.take s))) ∧ RatQ H14 (.agg #[.bool s1, .slice a1 n1 c1, .bool s2, .slice a2 n2 c2]) (valS p.1) ∧ IRow H14 (.slice a8 p.2.length c8) p.2 ∧ ∃ B, OTab (H3.length + 1) 120 80 4 true RatQ H14 (.slice oa n oc) B us ∧ Dim n m B ∧ ∀ j k, j < n → k < m → ent B j k = doneTo sh s (valS p.1, p.2) (i + 1) j k) ?_ ?_
            · rintro K4 hK4 hK4e
              simp [hF12]
              refine tx_elem (R := IR) (xs := p.2) (n := i) (a := x) (e := 3) (sz := 1) (ag := false) (by simpa using hj12) (by simp [hF12]) hx (by simp) (by simp) (by simp) (by decide) ?_
              rintro p13 u13 rfl
              simp [hF12]
              refine ZXt.join (by kernel_rfl) (fun F14 G14 H14 => H14 = H12 ∧ ∃ bad, F14 78 = .bool bad ∧ (bad = true ↔ (x < -1 ∨ (n : Int) ≤ x ∨ (0 ≤ x ∧ x ∈ p.2.take i)))) ?_ ?_
              · rintro K5 hK5 -
                by_cases h1 : x < -1
                · simp [h1]
                  exact hK5 _ _ _ ⟨rfl, true, by simp, by simp [h1]⟩
                · by_cases h2 : (n : Int) ≤ x
                  · simp [h1, h2]
                    exact hK5 _ _ _ ⟨rfl, true, by simp, by simp [h2]⟩
                  · by_cases h3 : 0 ≤ x
                    · simp [h1, h2, h3]
                      refine tx_slR (e := 3) (sz := 1) (ag := false) (R := IR) (xs := p.2) (l := 0) (h := i) (by simpa using hj12) (by simp) (by simp) (by decide) (by simp [loOf]) (by simp [hiOf]) (by omega) (by omega) ?_
                      intro v14 hv14
                      have e14 : (p.2.drop 0).take (i - 0) = p.2.take i := by simp
                      rw [e14] at hv14
                      try simp
                      refine SWt.mk (containsI_spec (l := p.2.take i) hv14 (by simp; omega)) ?_
                      rintro w H15 ⟨rfl, rfl⟩
                      try simp
                      exact hK5 _ _ _ ⟨rfl, decide (x ∈ p.2.take i), by simp, by simp [h1, h2, h3]⟩
                    · simp [h1, h2, h3]
                      exact hK5 _ _ _ ⟨rfl, false, by simp, by simp [h1, h2, h3]⟩
              · rintro F14 G14 H14 ⟨rfl, bad, h78, hbad⟩
                simp only [mix_ap] at h78
                simp at h78
                have hat : bad = false → JobAt n p.2 i := fun h => by
                  have h : ¬ (x < -1 ∨ (n : Int) ≤ x ∨ (0 ≤ x ∧ x ∈ p.2.take i)) := fun h' => by rw [hbad.2 h'] at h; cases h
                  exact ⟨x, hx, by omega, by omega, fun h0 hm => h (.inr (.inr ⟨h0, hm⟩))⟩
                have hnat : bad = true → ¬ JobAt n p.2 i := fun h hj => by
                  have h := hbad.1 h
                  obtain ⟨y, q1, q2, q3, q4⟩ := hj
                  rw [hx] at q1
                  have := Option.some.inj q1
                  subst this
                  rcases h with h | h | ⟨h, hm⟩
                  · omega
                  · omega
                  · exact q4 h hm
                simp [h78]
                refine Brt.mk (fun hb => ?_) (fun hb => ?_)
                · simp
                  refine Putt.mk hlv12.whole ?_
                  simp
                  refine hK4e _ _ _ _ (by simp) ?_
                  simp [retOf]
                  refine fail _ _ hlv12.whole (hx03.tr hx12) fun hall => ?_
                  exact hnat hb ((jobsOk_iff.1 (hall p hpm).2).2 i (by omega))
                · have hja' : ∀ k, k < i + 1 → JobAt n p.2 k := fun k hk => by
                    by_cases hki : k < i
                    · exact hja k hki
                    · obtain rfl : k = i := by omega
                      exact hat hb
                  refine Exists.elim (hat hb) fun y hy => ?_
                  have hyx : y = x := by have := hy.1; rw [hx] at this; exact (Option.some.inj this).symm
                  have hy2 := hy.2.1
                  have hy3 := hy.2.2.1
                  rw [hyx] at hy2 hy3
                  simp
                  refine Brt.mkD (fun hx0' => ?_) (fun hx0' => ?_)
                  · refine Exists.elim (⟨x.toNat, by omega⟩ : ∃ j : Nat, x = (j : Int)) fun j hj => ?_
                    have hjn : j < n := by omega
                    have him : i < m := by omega
                    refine Exists.elim (hd12.get hjn him) fun rj hr => ?_
                    refine Exists.elim (hTab12.row_at hr.1) fun uj hu => ?_
                    have hszji := doneTo_sz (i := i) (p := p) hszj hpok j i
                    rw [← he12 j i hjn him] at hszji
                    simp [hj]
                    refine tx_elem (R := EqR) (xs := us) (n := j) (a := uj) (e := 120) (sz := 1) (ag := false) (by simpa using hTab12.own.row) (by simp [hj]) hu.1 (by simp) (by simp) (by simp) (by decide) ?_
                    rintro p20 u20 rfl
                    simp [hj, hF12]
                    refine tx_elem (R := EqR) (xs := us) (n := j) (a := u20) (e := 120) (sz := 1) (ag := false) (by simpa using hTab12.own.row) (by simp [hj]) hu.1 (by simp) (by simp) (by simp) (by decide) ?_
                    rintro p21 u21 rfl
                    simp [hF12]
                    refine tx_elem (R := RatQ) (xs := rj) (n := i) (a := ent B j i) (e := 80) (sz := 4) (ag := true) (by simpa using hu.2.row) (by simp) hr.2.1 (by simp) (by simp) (by simp) (by decide) ?_
                    intro p22 u22 hu22
                    simp
                    refine SWt.mk (qadd2_spec (N := szS (s + 1)) (M := 13288) hu22 hq12 hszji hqsz (by unfold szS; omega)) ?_
                    rintro w H19 ⟨hx19, hw⟩
                    refine ⟨hx19, ?_⟩
                    have hTab19 := hTab12.ext hx19
                    have hO19 := Mono.ext (R := OwR (H3.length + 1) 80 4 true RatQ) hu.2 hx19
                    refine tx_put (k := H3.length + 1) (e := 80) (sz := 4) (ag := true) (n := i) (R := RatQ) (xs := rj) (a := ent B j i + valS p.1) (by simpa using hO19) (by simp) (by rw [hr.2.2]; exact him) (by simpa using hw) (by simpa using hw.whole) (by simp) (fun H' s' u y hk h => h.kept hk (by decide)) (by simp) (by simp) (by simp) (by decide) ?_
                    rintro p23 H20 hO20 hx20 hk20 hl20 -
                    simp at hO20 hk20
                    have hk : ∀ u x, RatQ H19 u x → RatQ H20 u x := fun u x h => h.kept hk20 (by decide)
                    try simp
                    refine hK4 _ _ _ ⟨hx20 _ (by omega) (hx12.tr hx19), hja', hk _ _ (hlv12.ext hx19), hk _ _ (hq12.ext hx19), (Mono.ext (R := IRow) hj12 hx19).kept hk20 (by decide), B.set j (rj.set i (ent B j i + valS p.1)), hTab19.inner hu.1 (by decide) hk20 hO20 hk, hd12.set (by rw [List.length_set]; exact hr.2.2), ?_⟩
                    intro j' k' hj' hk'
                    rw [ent_set hr.1 (by rw [hr.2.2]; exact him), doneTo_next hx, he12 j' k' hj' hk', he12 j i hjn him]
                    by_cases hc : j' = j ∧ k' = i
                    · obtain ⟨rfl, rfl⟩ := hc
                      rw [if_pos ⟨rfl, rfl⟩, if_pos ⟨rfl, hj⟩]
                    · rw [if_neg hc, if_neg (by omega)]
                      exact (Rat.add_zero _).symm
                  · refine hK4 _ _ _ ⟨hx12, hja', hlv12, hq12, hj12, B, hTab12, hd12, fun j' k' hj' hk' => ?_⟩
                    rw [doneTo_next hx, he12 j' k' hj' hk', if_neg (by omega)]
                    exact (Rat.add_zero _).symm
            · rintro F14 G14 H14 ⟨hx14, hja14, hlv14, hq14, hj14, hB14⟩
              exact hK3 _ _ _ (by simp [hF12]) ⟨hx14, hja14, hlv14, hq14, hj14, hB14⟩
          · rintro F12 G12 H12 hF12 ⟨hx12, hja, hlv12, hq12, hj12, B, hTab12, hd12, he12⟩
            simp
            refine SWt.mk (qadd2_spec (N := szS s) (M := 13288) hlv12 hq12 hszs.1 hqsz (by unfold szS; omega)) ?_
            rintro w H13 ⟨hx13, hw⟩
            simp
            refine Putt.mk hw.whole ?_
            try simp
            have hsok : ShOk n m p := ⟨⟨hpok, hpos, hpm'⟩, jobsOk_iff.2 ⟨hpm', fun k hk => hja k (by omega)⟩⟩
            refine hK _ _ _ (by simp [hF7]) ⟨hx12.tr hx13, fun q hq => ?_, ?_, B, hTab12.ext hx13, hd12, fun j k hj hk => ?_⟩
            · rw [List.take_add_one, hp, List.mem_append] at hq
              rcases hq with hq | hq
              · exact hok7 q hq
              · simp at hq
                rw [hq]; exact hsok
            · rw [parts_take hp, plen_snoc]
              simpa using hw
            · rw [he12 j k hj hk, hpm', doneTo_end hp hk]
    · simp [tzx_box]
      refine Putt.mk (hlv7.ext (hxd.tr (hx9.tr (Ext.dead H9)))).whole ?_
      simp [retOf]
      exact fail _ _ (hlv7.ext (hxd.tr (hx9.tr (Ext.dead H9)))).whole (hH7.tr (hxd.tr (hx9.tr (Ext.dead H9)))) fun hall => hno (hall p hpm).1.1
  · rintro F7 G7 H7 hF7 ⟨hx7, hok7, hlv7, B, hTab7, hd7, he7⟩
    simp at hlv7
    have hrow := hTab7.row
    rw [List.take_length] at hok7 he7
    simp
    refine tx_lnR (R := ShiftS) (xs := sh) (by simpa using Mono.ext (R := Row _ _ _ ShiftS) hP (hx03.tr hx7)) (by simp) ?_
    simp
    refine Putt.mk hlv7.whole ?_
    simp [retOf]
    refine hQ _ _ ⟨hx03.tr hx7, oa, n, oc, _, _, rfl, hlv7.whole, ?_, fun _ => ⟨B, hrow, hd7, he7, hlv7⟩⟩
    constructor
    · intro h
      simp at h
      exact ⟨hok7, by omega⟩
    · intro h
      have := h.2
      simp
      omega
theorem cmp_zero {a b : Rat} : ((if a < b then (-1 : Int) else if a = b then 0 else 1) = 0) ↔ a = b := by
  by_cases h1 : a < b
  · simp only [if_pos h1]
    constructor
    · intro h; omega
    · intro h; rw [h] at h1; exact absurd h1 Rat.lt_irrefl
  · by_cases h2 : a = b
    · simp [h2]
    · simp [h1, h2]
theorem same_spec {v w : Value} {t u : List (List Rat)} {n m N M : Nat} {H : SHeap} (hT : QTab H v t) (hU : QTab H w u) (hd : Dim n m t) (hdu : Dim n m u) (hn : n < 65536) (hm : m < 65536) (hst : ∀ i k, i < n → k < m → SzQ N (ent t i k)) (hsu : ∀ i k, i < n → k < m → SzQ M (ent u i k)) (hN : N + M + 1 ≤ 32000000) :
    SW prog 50 [.agg #[v], .agg #[w]] H (fun r H1 => Ext H H1 ∧ ∃ b, r = .bool b ∧ (b = true ↔ ∀ i k, i < n → k < m → ent t i k = ent u i k)) := by
  refine SW.cps fun Q hQ => ?_
  have htl := hd.len
  have hul := hdu.len
  apply into_shop_table_same (by simp)
  obtain ⟨a, c, rfl⟩ := Row.len hT
  obtain ⟨a2, c2, rfl⟩ := Row.len hU
  simp [Z_shop_table_same]
  have hx0 : Ext H (H ++ [.dead, .dead]) := Ext.more H (by simp)
  refine tx_lnR (R := QRow) (xs := t) (by simpa using hT.ext hx0) (by simp) ?_
  simp
  refine LoopZt.range (by kernel_rfl) t.length (by omega) (by simp) (by rfl) (by simp) (by decide) (by decide) (fun i F2 G2 H2 => Ext H H2 ∧ ∀ j k, j < i → k < m → ent t j k = ent u j k) ?_ ?_ ?_
  · exact ⟨hx0, fun j k hj => by omega⟩
  · rintro i F2 G2 H2 hi hF2 ⟨hx2, he2⟩ K hK
    simp at hF2
    have hin : i < n := by omega
    refine Exists.elim (hd.at hin) fun row hrow => ?_
    have hrl := hrow.2.2.1
    simp [hF2]
    refine tx_elem (R := QRow) (xs := t) (n := i) (a := row) (e := 120) (sz := 1) (ag := false) (by simpa using hT.ext hx2) (by simp [hF2]) hrow.1 (by simp) (by simp) (by simp) (by decide) ?_
    intro p3 u3 hu3
    try simp
    refine tx_lnR (R := RatQ) (xs := row) (by simpa using hu3) (by simp) ?_
    try simp
    refine LoopZt.range (by kernel_rfl) row.length (by omega) (by simp) (by rfl) (by simp) (by decide) (by decide) (fun k F4 G4 H4 => Ext H2 H4 ∧ ∀ k', k' < k → ent t i k' = ent u i k') ?_ ?_ ?_
    · exact ⟨Ext.refl _, fun k' hk => by omega⟩
    · rintro k F4 G4 H4 hk hF4 ⟨hx4, he4⟩ K4 hK4
      simp at hF4
      have hkm : k < m := by omega
      refine Exists.elim (hd.get hin hkm) fun r1 hr1 => ?_
      refine Exists.elim (hdu.get hin hkm) fun r2 hr2 => ?_
      have hrr : r1 = row := by have := hr1.1; rw [hrow.1] at this; exact (Option.some.inj this).symm
      have hrk := hr1.2.1
      rw [hrr] at hrk
      have hxd := Ext.dead H4
      simp [hF4]
      refine tx_elem (R := RatQ) (xs := row) (n := k) (a := ent t i k) (e := 80) (sz := 4) (ag := true) (by simpa using Mono.ext (R := QRow) hu3 hx4) (by simp [hF4]) hrk (by simp) (by simp) (by simp) (by decide) ?_
      intro p5 u5 hu5
      try simp
      refine Putt.mk hu5.whole ?_
      simp [hF2]
      refine tx_elem (R := QRow) (xs := u) (n := i) (a := r2) (e := 120) (sz := 1) (ag := false) (by simpa using hU.ext (hx2.tr (hx4.tr hxd))) (by simp) hr2.1 (by simp) (by simp) (by simp) (by decide) ?_
      intro p6 u6 hu6
      simp [hF4]
      refine tx_elem (R := RatQ) (xs := r2) (n := k) (a := ent u i k) (e := 80) (sz := 4) (ag := true) (by simpa using hu6) (by simp) hr2.2.1 (by simp) (by simp) (by simp) (by decide) ?_
      intro p7 u7 hu7
      try simp
      refine SWt.mk (qcmp2_spec (hu5.ext hxd) hu7 (hst i k hin hkm) (hsu i k hin hkm) hN) ?_
      rintro w8 H8 ⟨hx8, rfl⟩
      simp
      refine Brt.mkD (fun hc => ?_) (fun hc => ?_)
      · have heq := cmp_zero.1 hc
        try simp
        refine hK4 _ _ _ (by simp [hF4]) ⟨hx4.tr (hxd.tr hx8), fun k' hk' => ?_⟩
        by_cases h1 : k' < k
        · exact he4 k' h1
        · obtain rfl : k' = k := by omega
          exact heq
      · simp [retOf]
        refine hQ _ _ ⟨hx2.tr (hx4.tr (hxd.tr hx8)), false, rfl, ⟨fun h => (by cases h), fun h => ?_⟩⟩
        exact absurd (cmp_zero.2 (h i k hin hkm)) hc
    · rintro F4 G4 H4 hF4 ⟨hx4, he4⟩
      try simp
      refine hK _ _ _ (by simp [hF2]) ⟨hx2.tr hx4, fun j k hj hk => ?_⟩
      by_cases h1 : j < i
      · exact he2 j k h1 hk
      · obtain rfl : j = i := by omega
        exact he4 k (by omega)
  · rintro F2 G2 H2 hF2 ⟨hx2, he2⟩
    simp [retOf]
    exact hQ _ _ ⟨hx2, true, rfl, ⟨fun _ i k hi hk => he2 i k (by omega) hk, fun _ => rfl⟩⟩
def DoesOk (t : List (List Int)) (sh : List (List Nat × List Int)) : Prop := ((∀ p ∈ sh, ShOk t.length (t[0]?.getD []).length p) ∧ sh.length ≤ 1000) ∧ ∀ j k, j < t.length → k < (t[0]?.getD []).length → psum (parts sh) j k = ent (qt t) j k
theorem ent_sz {t : List (List Int)} (h : SmallI t) (i k : Nat) : SzQ 64 (ent (qt t) i k) := by
  rw [qt_ent]
  refine SzQ.int ?_ (by decide)
  cases hr : t[i]? with
  | none => simp
  | some r =>
    simp only [Option.getD_some]
    cases hx : r[k]? with
    | none => simp
    | some x =>
      have := (h r (List.mem_of_getElem? hr)).2 x (List.mem_of_getElem? hx)
      simp only [Option.getD_some]
      omega
theorem does_spec {v w : Value} {t : List (List Int)} {sh : List (List Nat × List Int)} {H : SHeap} (hT : Iss H v t) (hl : t.length < 65536) (hr : ∀ r ∈ t, r.length < 65536) (hP : Row 93 2 true ShiftS H w sh) (hB : ∀ p ∈ sh, Bytes p.1) (hlen : ∀ p ∈ sh, p.1.length < 4611686018427387904 ∧ p.2.length < 65536) (hsh : sh.length ≤ 2000) :
    SW prog 20 [v, w] H (fun u H1 => Ext H H1 ∧ (ValidT t → DoesOk t sh → u = if NumOk (plen (parts sh)) then .tuple #[.string (bs' (numStr (plen (parts sh)))), .int .i64 0] else .tuple #[.string (bs' []), .int .i64 5]) ∧ (ValidT t → ¬ DoesOk t sh → u = .tuple #[.string (bs' []), .int .i64 2]) ∧ (¬ ValidT t → u = .tuple #[.string (bs' []), .int .i64 1])) := by
  refine SW.cps fun Q hQ => ?_
  obtain ⟨m, hm⟩ : ∃ m, m = (t[0]?.getD []).length := ⟨_, rfl⟩
  apply into_shop_Does (by simp)
  simp [Z_shop_Does]
  have lit0 : ({ data := #[] } : ByteArray) = bs' [] := rfl
  refine SWt.mk (valid_spec hT (by omega) fun r h => by have := hr r h; omega) ?_
  rintro u H1 ⟨hx1, rfl⟩
  simp
  refine Brt.mk (fun hv => ?good) (fun hv => ?bad)
  case bad =>
    simp at hv
    simp [retOf]
    exact hQ _ _ ⟨hx1, fun h => absurd h hv, fun h => absurd h hv, fun _ => by rw [lit0]⟩
  simp at hv
  have hs := hv.small
  have hml := hv.len
  have v1 := hv.1
  have v2 := hv.2.1
  have v3 := hv.2.2.1
  have v4 := hv.2.2.2.1
  rw [← hm] at hml v3 v4
  have hdim := qt_dim rfl hml
  refine Exists.elim (hdim.at (i := 0) (by omega)) fun r0 hr0 => ?_
  simp
  refine SWt.mk (readQ_spec (hT.ext hx1).row (by omega) hr fun r h x hx => by have := (hs r h).2 x hx; omega) ?_
  rintro _ H2 ⟨hx2, au, cu, rfl, hQT⟩
  simp
  have hx3 := Ext.dead H2
  refine SWt.mk (jobsN_spec (n := t.length) (hQT.ext hx3) (by simp [qt])) ?_
  rintro _ H4 ⟨hx4, rfl⟩
  refine ⟨hx4, ?_⟩
  simp
  refine SWt.mk (machinesN_spec (hQT.ext (hx3.tr hx4)) hr0.1 hr0.2.2.1) ?_
  rintro _ H5 ⟨hx5, rfl⟩
  refine ⟨hx5, ?_⟩
  simp
  have hx25 := hx3.tr (hx4.tr hx5)
  have hx15 := hx1.tr (hx2.tr hx25)
  refine SWt.mk (done_spec (n := t.length) (m := m) (Mono.ext (R := Row _ _ _ ShiftS) hP hx15) hB hlen hsh (by omega) (by omega) (by omega) (by omega)) ?_
  rintro _ H6 ⟨hx6, ta, tn, tc, lv, b, rfl, hlw, hb, hbt⟩
  refine ⟨hx6, ?_⟩
  have hx16 := hx15.tr hx6
  cases b with
  | false =>
    have hno : ¬ DoesOk t sh := fun h => by
      have := hb.2 (by rw [hm]; exact h.1)
      cases this
    simp
    refine Putt.mk hlw ?_
    simp [tzx_box, retOf]
    exact hQ _ _ ⟨hx16.tr (Ext.more H6 (by simp)), fun _ h => absurd h hno, fun _ _ => by rw [lit0], fun h => absurd hv h⟩
  | true =>
    have hok := hb.1 rfl
    refine Exists.elim (hbt rfl) fun B hBB => ?_
    have hbB := hBB.1
    have hbd := hBB.2.1
    have hbe := hBB.2.2.1
    have hbl := hBB.2.2.2
    have hsums := sums_sz (sh := sh) fun q hq => (hok.1 q hq).1.1
    have hx7 : Ext H6 (H6 ++ [.dead, .dead]) := Ext.more H6 (by simp)
    simp
    refine Putt.mk hlw ?_
    simp
    refine ZXt.join (by kernel_rfl) (fun F8 G8 H8 => Ext (H6 ++ [.dead, .dead]) H8 ∧ ∃ bb, F8 32 = .bool bb ∧ (bb = false ↔ DoesOk t sh)) ?_ ?_
    · rintro K hK -
      simp
      refine SWt.mk (same_spec (N := 64) (M := szS sh.length) (hQT.ext (hx25.tr (hx6.tr hx7))) (hbB.ext hx7) hdim hbd (by omega) (by omega) (fun i k _ _ => ent_sz hs i k) (fun i k hi hk => by rw [hbe i k hi hk]; exact hsums.2 i k) (by unfold szS; omega)) ?_
      rintro _ H8 ⟨hx8, b2, rfl, hb2⟩
      simp
      refine hK _ _ _ ⟨hx8, !b2, by simp, ?_⟩
      have : (!b2) = false ↔ b2 = true := by cases b2 <;> simp
      rw [this, hb2]
      unfold DoesOk
      rw [← hm]
      constructor
      · intro h
        exact ⟨hok, fun j k hj hk => by rw [← hbe j k hj hk, h j k hj hk]⟩
      · intro h i k hi hk
        rw [hbe i k hi hk, h.2 i k hi hk]
    · rintro F8 G8 H8 ⟨hx8, bb, h32, hbb⟩
      simp at h32
      simp [h32]
      refine Brt.mk (fun hb => ?_) (fun hb => ?_)
      · simp [retOf]
        exact hQ _ _ ⟨hx16.tr (hx7.tr hx8), fun _ h => (by rw [hbb.2 h] at hb; cases hb), fun _ _ => by rw [lit0], fun h => absurd hv h⟩
      · have hD := hbb.1 hb
        simp
        refine SWt.mk (rnum_spec (N := szS sh.length) (hbl.ext (hx7.tr hx8)) hsums.1 (by unfold szS; omega)) ?_
        rintro _ H9 ⟨hx9, hu⟩
        have hx19 := hx16.tr (hx7.tr (hx8.tr hx9))
        by_cases hk : NumOk (plen (parts sh))
        · rw [if_pos hk] at hu
          subst hu
          simp [retOf]
          exact hQ _ _ ⟨hx19, fun _ _ => by rw [if_pos hk], fun _ h => absurd hD h, fun h => absurd hv h⟩
        · rw [if_neg hk] at hu
          subst hu
          simp [retOf]
          exact hQ _ _ ⟨hx19, fun _ _ => by rw [if_neg hk], fun _ h => absurd hD h, fun h => absurd hv h⟩
end Go.Sx
end
section
namespace Go.Sx
def vald : List Nat → Nat
  | [] => 0
  | d :: ds => d + 10000 * vald ds
def Dg (ds : List Nat) : Prop := ∀ d ∈ ds, d < 10000
theorem Dg.nil : Dg [] := fun d h => by cases h
theorem Dg.snoc {ds : List Nat} {d : Nat} (h : Dg ds) (hd : d < 10000) : Dg (ds ++ [d]) := fun x hx => by
  rcases List.mem_append.1 hx with hx | hx
  · exact h x hx
  · rw [List.mem_singleton.1 hx]; exact hd
theorem Dg.take {ds : List Nat} (h : Dg ds) (n : Nat) : Dg (ds.take n) := fun x hx => h x (List.mem_of_mem_take hx)
theorem Dg.get {ds : List Nat} (h : Dg ds) (i : Nat) : ds[i]?.getD 0 < 10000 := by
  cases hi : ds[i]? with
  | none => decide
  | some d => exact h d (List.mem_of_getElem? hi)
theorem vald_append (a b : List Nat) : vald (a ++ b) = vald a + 10000 ^ a.length * vald b := by
  induction a with
  | nil => simp [vald]
  | cons x a ih =>
    simp only [List.cons_append, vald, ih, List.length_cons, Nat.pow_succ]
    rw [Nat.mul_add, Nat.mul_comm (10000 ^ a.length) 10000, Nat.mul_assoc]
    omega
theorem vald_snoc (a : List Nat) (d : Nat) : vald (a ++ [d]) = vald a + 10000 ^ a.length * d := by
  rw [vald_append]; simp [vald]
theorem vald_lt {ds : List Nat} (h : Dg ds) : vald ds < 10000 ^ ds.length := by
  induction ds with
  | nil => simp [vald]
  | cons d ds ih =>
    have h1 := ih fun x hx => h x (by simp [hx])
    have h2 := h d (by simp)
    simp only [vald, List.length_cons, Nat.pow_succ]
    omega
theorem vald_zeros (n : Nat) : vald (List.replicate n 0) = 0 := by
  induction n with
  | zero => rfl
  | succ n ih => rw [List.replicate_succ]; simp [vald, ih]
def TrimD (ds : List Nat) : Prop := ds.getLast? ≠ some 0
theorem TrimD.nil : TrimD [] := by simp [TrimD]
theorem TrimD.snoc {ds : List Nat} {d : Nat} (h : d ≠ 0) : TrimD (ds ++ [d]) := by simp [TrimD, h]
theorem TrimD.le {ds : List Nat} (h : TrimD ds) (hn : ds ≠ []) : 10000 ^ (ds.length - 1) ≤ vald ds := by
  obtain ⟨a, d, rfl⟩ : ∃ a d, ds = a ++ [d] := ⟨ds.dropLast, ds.getLast hn, (List.dropLast_concat_getLast hn).symm⟩
  have hd : d ≠ 0 := fun e => h (by simp [e])
  rw [vald_snoc]
  simp only [List.length_append, List.length_singleton, Nat.add_sub_cancel]
  have : 10000 ^ a.length * 1 ≤ 10000 ^ a.length * d := Nat.mul_le_mul_left _ (by omega)
  omega
theorem TrimD.zero {ds : List Nat} (h : TrimD ds) : vald ds = 0 ↔ ds = [] := by
  constructor
  · intro hz
    by_cases hn : ds = []
    · exact hn
    · have := h.le hn
      have := Nat.pow_pos (n := ds.length - 1) (show 0 < 10000 by decide)
      omega
  · rintro rfl; rfl
theorem TrimD.lt_len {a b : List Nat} (hb : TrimD b) (ha : Dg a) (h : a.length < b.length) : vald a < vald b := by
  have h1 := hb.le (by intro e; rw [e] at h; simp at h)
  have h2 := vald_lt ha
  have h3 : 10000 ^ a.length ≤ 10000 ^ (b.length - 1) := Nat.pow_le_pow_right (by decide) (by omega)
  omega
theorem TrimD.len {ds : List Nat} (h : TrimD ds) {n : Nat} (hv : vald ds < 10000 ^ n) : ds.length ≤ n := by
  by_cases hn : ds = []
  · simp [hn]
  · have h1 := h.le hn
    by_cases hlt : ds.length ≤ n
    · exact hlt
    · have : 10000 ^ n ≤ 10000 ^ (ds.length - 1) := Nat.pow_le_pow_right (by decide) (by omega)
      omega
theorem vald_take_succ {ds : List Nat} {i : Nat} (hi : i < ds.length) : vald (ds.take (i + 1)) = vald (ds.take i) + 10000 ^ i * (ds[i]?.getD 0) := by
  rw [List.take_succ_eq_append_getElem hi, vald_snoc, List.length_take, Nat.min_eq_left (by omega), gtE hi]
  rfl
theorem vald_drop {ds : List Nat} {i : Nat} (hi : i < ds.length) : vald (ds.drop i) = ds[i]?.getD 0 + 10000 * vald (ds.drop (i + 1)) := by
  rw [List.drop_eq_getElem_cons hi, gtE hi]
  rfl
theorem vald_split (ds : List Nat) (i : Nat) (hi : i ≤ ds.length) : vald ds = vald (ds.take i) + 10000 ^ i * vald (ds.drop i) := by
  have := vald_append (ds.take i) (ds.drop i)
  rw [List.take_append_drop, List.length_take, Nat.min_eq_left hi] at this
  exact this
theorem vald_cmp {a b : List Nat} (ha : Dg a) (hb : Dg b) (hl : a.length = b.length) {i : Nat} (hi : i < a.length) (he : a.drop (i + 1) = b.drop (i + 1)) (hlt : a[i]?.getD 0 < b[i]?.getD 0) : vald a < vald b := by
  rw [vald_split a i (by omega), vald_split b i (by omega), vald_drop hi, vald_drop (by omega : i < b.length), he]
  have h1 := vald_lt (ha.take i)
  have h2 : (a.take i).length = i := by simp; omega
  rw [h2] at h1
  have h3 : 10000 ^ i * (a[i]?.getD 0 + 1 + 10000 * vald (b.drop (i + 1))) ≤ 10000 ^ i * (b[i]?.getD 0 + 10000 * vald (b.drop (i + 1))) := Nat.mul_le_mul_left _ (by omega)
  have h4 : 10000 ^ i * (a[i]?.getD 0 + 1 + 10000 * vald (b.drop (i + 1))) = 10000 ^ i * (a[i]?.getD 0 + 10000 * vald (b.drop (i + 1))) + 10000 ^ i := by
    rw [show a[i]?.getD 0 + 1 + 10000 * vald (b.drop (i + 1)) = (a[i]?.getD 0 + 10000 * vald (b.drop (i + 1))) + 1 by omega, Nat.mul_add]; omega
  omega
theorem vald_cut {ds : List Nat} {n : Nat} (h : ∀ i, n ≤ i → i < ds.length → ds[i]?.getD 0 = 0) : vald (ds.take n) = vald ds := by
  by_cases hn : n ≤ ds.length
  · rw [vald_split ds n hn]
    have : ds.drop n = List.replicate (ds.length - n) 0 := by
      apply List.ext_getElem?
      intro i
      rw [List.getElem?_drop, List.getElem?_replicate]
      by_cases hi : n + i < ds.length
      · have := h (n + i) (by omega) hi
        rw [gtE hi] at this ⊢
        rw [if_pos (by omega)]
        simpa using this
      · rw [List.getElem?_eq_none (by omega), if_neg (by omega)]
    rw [this, vald_zeros]; simp
  · rw [List.take_of_length_le (by omega)]
end Go.Sx
end
section
set_option maxRecDepth 8000
set_option maxHeartbeats 1000000
namespace Go.Sx
open Go.Proofs
open Go.Proofs.Tryz (prog)
attribute [-simp] tx_ia tx_ln tx_ix
def NR (H : SHeap) (v : Value) (d : Nat) : Prop := v = .int .i64 (d : Int)
instance : Mono NR := ⟨fun h _ => h⟩
abbrev DR (H : SHeap) (v : Value) (ds : List Nat) : Prop := Row 3 1 false NR H v ds
theorem DR.ext {H H1 : SHeap} {v : Value} {ds : List Nat} (h : DR H v ds) (hx : Ext H H1) : DR H1 v ds := Mono.ext (R := Row _ _ _ NR) h hx
def sgn (s : Bool) (n : Nat) : Int := if s = true then -(n : Int) else n
def ZN (H : SHeap) (v : Value) (z : Int) : Prop := ∃ s a c ds, v = .agg #[.bool s, .slice a ds.length c] ∧ DR H (.slice a ds.length c) ds ∧ Dg ds ∧ TrimD ds ∧ z = sgn s (vald ds) ∧ (ds = [] → s = false)
theorem ZN.ext {H H1 : SHeap} {v : Value} {z : Int} (h : ZN H v z) (hx : Ext H H1) : ZN H1 v z := by
  obtain ⟨s, a, c, ds, h1, h2, h3⟩ := h
  exact ⟨s, a, c, ds, h1, h2.ext hx, h3⟩
theorem ZN.whole {H : SHeap} {v : Value} {z : Int} (h : ZN H v z) : Whole prog 40 v := by
  obtain ⟨s, a, c, ds, rfl, -⟩ := h
  exact ⟨by rfl, by simp [Value.cells, Value.oneCell'], by simp [isAg]⟩
theorem sgn_abs (s : Bool) (n : Nat) : (sgn s n).natAbs = n := by
  unfold sgn; split <;> simp
theorem ZN.len {s : Bool} {ds : List Nat} {z : Int} {n : Nat} (hT : TrimD ds) (hz : z = sgn s (vald ds)) (h : z.natAbs < 10000 ^ n) : ds.length ≤ n := by
  rw [hz, sgn_abs] at h
  exact hT.len h
section
variable {P : Program} {r : List XOp} {F : Fr} {H : SHeap} {Q : Fr → SHeap → Prop} {α : Type}
theorem tx_apS {d ts tx e sz by_ k : Nat} {ag : Bool} {s x : Operand} {z : Value} {R : SHeap → Value → α → Prop} {xs ys : List α} {tk : Tok (ap d ts tx s x :: r) Q} (hO : OwR k e sz ag R H (fev F s) xs) (hY : Row e sz ag R H (fev F x) ys) (hRw : ∀ u y, R H u y → Whole P e u) (hRk : ∀ H' s' u y, Kept H H' s' e → R H u y → R H' u y)
    (hu : P.underlying ts = some (.slice e)) (hx : srcT P tx = true) (hs : sz? P e = some sz) (hag : aggB P e = some ag) (h1 : ag = true ∨ sz = 1) (hb : bytes? P e = some by_) (hz : zero? P e = some z) (hzs : z.cells.size = sz) (hby : 0 < by_) (hfit : (xs.length + ys.length) * by_ ≤ 140737488355328) (hk : k ≤ H.length)
    (K : ∀ aa cc H', OwR k e sz ag R H' (.slice aa (xs.length + ys.length) cc) (xs ++ ys) → (∀ H0 : SHeap, H0.length ≤ k → Ext H0 H → Ext H0 H') → Kept H H' (fev F s) e → XWt P r Q .mk (upd F d (.slice aa (xs.length + ys.length) cc)) H') : XWt P (ap d ts tx s x :: r) Q tk F H :=
  tx_apR hO hY hRw hRk hu hx hs hag h1 hb hz hzs hby hfit hk fun v' H' hO' q1 q2 => by
    have hl := hO'.len
    rw [List.length_append] at hl
    obtain ⟨aa, cc, rfl⟩ := hl
    exact K aa cc H' hO' q1 q2
end
theorem getLast_zero {ds : List Nat} {m : Nat} (hm : 0 < m) (hml : m ≤ ds.length) : (ds.take m).getLast? = some (ds[m - 1]?.getD 0) := by
  rw [List.getLast?_eq_getElem?, List.length_take, Nat.min_eq_left hml, List.getElem?_take_of_lt (by omega), gtE (by omega)]
  rfl
def ZO (k : Nat) (H : SHeap) (v : Value) (z : Int) : Prop := ∃ s a c ds, v = .agg #[.bool s, .slice a ds.length c] ∧ OwR k 3 1 false NR H (.slice a ds.length c) ds ∧ Dg ds ∧ TrimD ds ∧ z = sgn s (vald ds) ∧ (ds = [] → s = false)
theorem ZO.zn {k : Nat} {H : SHeap} {v : Value} {z : Int} (h : ZO k H v z) : ZN H v z := by
  obtain ⟨s, a, c, ds, h1, h2, h3⟩ := h
  exact ⟨s, a, c, ds, h1, h2.row, h3⟩
theorem leanO_spec {s : Bool} {a : Option Addr} {c : Nat} {ds : List Nat} {H : SHeap} (hR : DR H (.slice a ds.length c) ds) (hD : Dg ds) (hl : ds.length < 1000000000000) :
    SW prog 72 [.agg #[.bool s, .slice a ds.length c]] H (fun u H1 => Ext H H1 ∧ ZO H.length H1 u (sgn s (vald ds))) := by
  refine SW.cps fun Q hQ => ?_
  apply into_big_lean (by simp)
  simp [Z_big_lean]
  have hx0 : Ext H (H ++ [.dead, .dead]) := Ext.more H (by simp)
  have hR0 := hR.ext hx0
  refine tx_lnR (R := NR) (xs := ds) (by simpa using hR0) (by simp) ?_
  simp
  refine LoopZt.mk (by kernel_rfl) (fun m F1 G1 H1 => H1 = H ++ [.dead, .dead] ∧ F1 3 = .int .i64 (m : Int) ∧ m ≤ ds.length ∧ ∀ i, m ≤ i → i < ds.length → ds[i]?.getD 0 = 0) ds.length ⟨rfl, by simp, Nat.le_refl _, fun i h1 h2 => by omega⟩ ?_
  rintro m F1 G1 H1 ⟨rfl, h3, hm, hz⟩ K hK
  simp at h3
  simp only [tzx_seq]
  refine ZXt.join (by kernel_rfl) (fun F2 G2 H2 => H2 = H ++ [.dead, .dead] ∧ F2 17 = .bool (decide (0 < m ∧ ds[m - 1]?.getD 0 = 0))) ?_ ?_
  · rintro K2 hK2 -
    by_cases h0 : 0 < m
    · have hw : IntKind.i64.wrap ((m : Int) - 1) = ((m - 1 : Nat) : Int) := by rw [w64 (by omega) (by omega)]; omega
      refine Exists.elim (⟨_, gtE (show m - 1 < ds.length by omega)⟩ : ∃ d, ds[m - 1]? = some d) fun d hd => ?_
      simp [h3, h0, hw]
      refine tx_elemg (R := NR) (xs := ds) (n := m - 1) (a := d) (e := 3) (sz := 1) (ag := false) (by simp) (by decide) (by simpa using hR0) (by simp) hd (by simp) (by simp) (by simp) (by decide) ?_
      rintro p1 u1 rfl
      simp
      exact hK2 _ _ _ ⟨rfl, by simp [h0, hd]⟩
    · simp [h3, h0]
      exact hK2 _ _ _ ⟨rfl, by simp [h0]⟩
  · rintro F2 G2 H2 ⟨rfl, h17⟩
    simp only [mix_ap] at h17
    simp at h17
    simp [h17]
    refine Brt.mk (fun hb => ?_) (fun hb => ?_)
    · simp at hb
      have hw : IntKind.i64.wrap ((m : Int) - 1) = ((m - 1 : Nat) : Int) := by rw [w64 (by omega) (by omega)]; omega
      simp [h3, hw]
      refine hK (m - 1) _ _ _ (by omega) ⟨rfl, by simp, by omega, fun i h1 h2 => ?_⟩
      by_cases him : i = m - 1
      · rw [him]; exact hb.2
      · exact hz i (by omega) h2
    · simp at hb
      have hT : TrimD (ds.take m) := by
        by_cases h0 : 0 < m
        · unfold TrimD
          rw [getLast_zero h0 hm]
          intro h
          exact hb h0 (Option.some.inj h)
        · obtain rfl : m = 0 := by omega
          exact TrimD.nil
      have hv := vald_cut hz
      have hml : (ds.take m).length = m := by simp; omega
      refine tx_bs0 (e := 3) (sz := 1) (by simp) (by simp) ?_
      simp [h3]
      refine tx_slR (e := 3) (sz := 1) (ag := false) (R := NR) (xs := ds) (l := 0) (h := m) (by simpa using hR0) (by simp) (by simp) (by decide) (by simp [loOf, h3]) (by simp [hiOf, h3]) (by omega) (by omega) ?_
      intro v3 hv3
      have e3 : (ds.drop 0).take (m - 0) = ds.take m := by simp
      rw [e3] at hv3
      refine tx_apS (k := (H ++ [SObj.dead, SObj.dead]).length) (e := 3) (sz := 1) (ag := false) (by_ := 8) (z := .int .i64 0) (R := NR) (xs := []) (ys := ds.take m) (by simpa using OwR.void _ _ _ _ _ _ _) (by simpa using hv3) (fun u y h => by rw [show u = _ from h]; exact wh_int y) (fun H' s' u y hk h => h) (by simp) (by simp) (by simp) (by simp) (by decide) (by rfl) (by rfl) (by rfl) (by decide) (by simp; omega) (Nat.le_refl _) ?_
      intro aa cc H4 hO4 hx4 hk4
      have hx04 := hx4 _ (Nat.le_refl _) (Ext.refl _)
      have hR4 : OwR H.length 3 1 false NR H4 (.slice aa m cc) (ds.take m) := by
        have := hO4.le (k' := H.length) (by simp)
        simp only [List.nil_append, List.length_nil, Nat.zero_add, hml] at this
        exact this
      simp only [List.length_nil, Nat.zero_add, hml]
      simp [tzx_box]
      cases s with
      | false =>
        simp [retOf]
        refine hQ _ _ ⟨hx0.tr hx04, false, aa, cc, ds.take m, by rw [hml], by rw [hml]; exact hR4, hD.take m, hT, by rw [hv], fun _ => rfl⟩
      | true =>
        simp [h3, retOf]
        refine hQ _ _ ⟨hx0.tr hx04, decide (0 < m), aa, cc, ds.take m, by rw [hml], by rw [hml]; exact hR4, hD.take m, hT, ?_, fun h => ?_⟩
        · rw [hv]
          by_cases h0 : 0 < m
          · simp [h0]
          · obtain rfl : m = 0 := by omega
            simp [vald] at hv
            simp [sgn, ← hv]
        · rw [h] at hml
          simp at hml
          simp [← hml]
theorem lean_spec {s : Bool} {a : Option Addr} {c : Nat} {ds : List Nat} {H : SHeap} (hR : DR H (.slice a ds.length c) ds) (hD : Dg ds) (hl : ds.length < 1000000000000) :
    SW prog 72 [.agg #[.bool s, .slice a ds.length c]] H (fun u H1 => Ext H H1 ∧ ZN H1 u (sgn s (vald ds))) := (leanO_spec hR hD hl).mono fun u H1 h => ⟨h.1, h.2.zn⟩
theorem sgn_of (v : Int) : v = sgn (decide (v < 0)) v.natAbs := by
  unfold sgn
  by_cases h : v < 0
  · simp [h]; omega
  · simp [h]; omega
theorem tmod_abs {c : Int} : (if c.tmod 10000 < 0 then -(c.tmod 10000) else c.tmod 10000) = ((c.natAbs % 10000 : Nat) : Int) := by
  have h : (c.tmod 10000).natAbs = c.natAbs % 10000 := Int.natAbs_tmod c 10000
  by_cases h1 : c.tmod 10000 < 0
  · rw [if_pos h1]; omega
  · rw [if_neg h1]; omega
theorem bint_spec {v : Int} {H : SHeap} (h1 : -9223372036854775808 ≤ v) (h2 : v < 9223372036854775808) : SW prog 46 [.int .i64 v] H (fun u H1 => Ext H H1 ∧ ZN H1 u v) := by
  refine SW.cps fun Q hQ => ?_
  apply into_big_Int (by simp)
  simp [Z_big_Int]
  have hx0 : Ext H (H ++ [.dead, .dead]) := Ext.more H (by simp)
  obtain ⟨HA, hHA⟩ : ∃ HA, HA = H ++ [SObj.dead, SObj.dead] := ⟨_, rfl⟩
  rw [← hHA] at hx0 ⊢
  refine LoopZt.mk (by kernel_rfl) (fun w F1 G1 H1 => ∃ cur ds a c, w = cur.natAbs ∧ F1 0 = .int .i64 cur ∧ G1 3 = .agg #[.bool (decide (v < 0)), .slice a ds.length c] ∧ OwR HA.length 3 1 false NR H1 (.slice a ds.length c) ds ∧ Dg ds ∧ (cur = 0 → TrimD ds) ∧ v.natAbs = vald ds + 10000 ^ ds.length * cur.natAbs ∧ Ext HA H1) v.natAbs ⟨v, [], none, 0, rfl, by simp, by simp, OwR.nil _ _ _ _ _ _, Dg.nil, fun _ => TrimD.nil, by simp [vald], Ext.refl _⟩ ?_
  rintro w F1 G1 H1 ⟨cur, ds, a, c, rfl, hc0, hG3, hO, hD, hT, hv, hx⟩ K hK
  simp at hc0 hG3
  simp [hc0]
  refine Brt.mkD (fun hz => ?_) (fun hz => ?_)
  · simp [hG3]
    simp [retOf]
    refine hQ _ _ ⟨hx0.tr hx, _, a, c, ds, rfl, hO.row, hD, hT hz, ?_, fun h => ?_⟩
    · rw [hz] at hv
      simp at hv
      rw [← hv]; exact sgn_of v
    · rw [hz, h] at hv
      simp [vald] at hv
      simp [hv]
  · have hpos : 0 < cur.natAbs := by omega
    have hle : 10000 ^ ds.length ≤ v.natAbs := by
      rw [hv]
      have : 10000 ^ ds.length * 1 ≤ 10000 ^ ds.length * cur.natAbs := Nat.mul_le_mul_left _ hpos
      omega
    have hlen : ds.length < 5 := by
      have h5 : v.natAbs < 10000 ^ 5 := by
        have : (10000 : Nat) ^ 5 = 100000000000000000000 := by decide
        omega
      exact (Nat.pow_lt_pow_iff_right (by decide)).1 (Nat.lt_of_le_of_lt hle h5)
    have hcb : cur.natAbs ≤ v.natAbs := by
      rw [hv]
      have : 1 * cur.natAbs ≤ 10000 ^ ds.length * cur.natAbs := Nat.mul_le_mul_right _ (Nat.pow_pos (by decide))
      omega
    have hda : (cur.tdiv 10000).natAbs = cur.natAbs / 10000 := Int.natAbs_tdiv cur 10000
    have hma : (cur.tmod 10000).natAbs = cur.natAbs % 10000 := Int.natAbs_tmod cur 10000
    have hwn : IntKind.i64.wrap (-(cur.tmod 10000)) = -(cur.tmod 10000) := w64 (by omega) (by omega)
    have hwd : IntKind.i64.wrap (cur.tdiv 10000) = cur.tdiv 10000 := w64 (by omega) (by omega)
    simp [hc0]
    refine ZXt.join (by kernel_rfl) (fun F2 G2 H2 => H2 = H1 ∧ F2 4 = .int .i64 ((cur.natAbs % 10000 : Nat) : Int)) ?_ ?_
    · rintro K2 hK2 -
      simp
      refine Brt.mkD (fun hneg => ?_) (fun hneg => ?_)
      · simp [hwn]
        refine hK2 _ _ _ ⟨rfl, ?_⟩
        rw [← tmod_abs, if_pos hneg]; simp
      · try simp
        refine hK2 _ _ _ ⟨rfl, ?_⟩
        rw [← tmod_abs, if_neg hneg]; simp
    · rintro F2 G2 H2 ⟨rfl, h4⟩
      simp only [mix_ap] at h4
      simp at h4
      have hHl := Ext.len hx
      simp [hG3, h4]
      refine tx_pushS (k := HA.length) (e := 3) (sz := 1) (ag := false) (by_ := 8) (z := .int .i64 0) (R := NR) (xs := ds) (a := cur.natAbs % 10000) (by simpa using hO) (by simp [NR, h4]) (by simp [h4]; exact wh_int _) (by simp) (fun _ _ _ _ _ h => h) (by simp) (by simp) (by simp) (by simp) (by simp) (by rfl) (by rfl) (by rfl) (by rfl) (by decide) (by decide) (by decide) (by omega) (by omega) ?_
      intro p5 a5 c5 H5 hO5 hx5 hk5
      simp [hG3, hc0, hwd]
      refine hK (cur.natAbs / 10000) _ _ _ (Nat.div_lt_self hpos (by decide)) ⟨cur.tdiv 10000, ds ++ [cur.natAbs % 10000], a5, c5, by rw [hda], by simp, by simp, by simpa using hO5, hD.snoc (Nat.mod_lt _ (by decide)), fun h0 => ?_, ?_, hx5 _ (Nat.le_refl _) hx⟩
      · refine TrimD.snoc fun hm0 => ?_
        have : cur.natAbs / 10000 = 0 := by rw [← hda, h0]; rfl
        omega
      · rw [vald_snoc, List.length_append, List.length_singleton, Nat.pow_succ, hda, hv, Nat.mul_assoc, Nat.add_assoc, ← Nat.mul_add]
        congr 2
        have := Nat.div_add_mod cur.natAbs 10000
        omega
theorem sizes_spec {v w : Value} {x y : List Nat} {H : SHeap} (hA : DR H v x) (hB : DR H w y) (hx : Dg x) (hy : Dg y) (tx : TrimD x) (ty : TrimD y) (hlx : x.length < 1000000000000) (hly : y.length < 1000000000000) :
    SW prog 83 [v, w] H (fun u H1 => H1 = H ∧ u = .int .i64 (if vald x < vald y then -1 else if vald x = vald y then 0 else 1)) := by
  refine SW.cps fun Q hQ => ?_
  apply into_big_sizes (by simp)
  obtain ⟨a, c, rfl⟩ := Row.len hA
  obtain ⟨a2, c2, rfl⟩ := Row.len hB
  simp [Z_big_sizes]
  refine tx_lnR (R := NR) (xs := x) (by simpa using hA) (by simp) ?_
  try simp
  refine tx_lnR (R := NR) (xs := y) (by simpa using hB) (by simp) ?_
  simp
  refine Brt.mkD (fun hl => ?_) (fun hl => ?_)
  · have hl' : x.length = y.length := by omega
    have hwl : IntKind.i64.wrap ((x.length : Int) - 1) = (x.length : Int) - 1 := w64 (by omega) (by omega)
    try simp
    refine tx_lnR (R := NR) (xs := x) (by simpa using hA) (by simp) ?_
    simp [hwl]
    refine LoopZt.mk (by kernel_rfl) (fun m F1 G1 H1 => H1 = H ∧ F1 5 = .int .i64 ((m : Int) - 1) ∧ m ≤ x.length ∧ x.drop m = y.drop m) x.length ⟨rfl, by simp, Nat.le_refl _, by rw [List.drop_length, List.drop_of_length_le (by omega)]⟩ ?_
    rintro m F1 G1 H1 ⟨rfl, h5, hm, he⟩ K hK
    simp at h5
    simp [h5]
    refine Brt.mkD (fun hge => ?_) (fun hge => ?_)
    · refine Exists.elim (⟨m - 1, by omega⟩ : ∃ i : Nat, m = i + 1) fun i hi => ?_
      refine Exists.elim (⟨_, gtE (show i < x.length by omega)⟩ : ∃ d, x[i]? = some d) fun d hd => ?_
      refine Exists.elim (⟨_, gtE (show i < y.length by omega)⟩ : ∃ d, y[i]? = some d) fun e he' => ?_
      have hmi : (m : Int) - 1 = (i : Int) := by omega
      have hwi : IntKind.i64.wrap ((i : Int) - 1) = (i : Int) - 1 := w64 (by omega) (by omega)
      have hxd : x[i]?.getD 0 = d := by rw [hd]; rfl
      have hye : y[i]?.getD 0 = e := by rw [he']; rfl
      rw [hi] at he
      simp [h5, hmi]
      refine tx_elem (R := NR) (xs := x) (n := i) (a := d) (e := 3) (sz := 1) (ag := false) (by simpa using hA) (by simp [h5, hmi]) hd (by simp) (by simp) (by simp) (by decide) ?_
      rintro p2 u2 rfl
      simp [h5, hmi]
      refine tx_elem (R := NR) (xs := y) (n := i) (a := e) (e := 3) (sz := 1) (ag := false) (by simpa using hB) (by simp [h5, hmi]) he' (by simp) (by simp) (by simp) (by decide) ?_
      rintro p3 u3 rfl
      simp
      refine Brt.mkD (fun hlt => ?_) (fun hlt => ?_)
      · have := vald_cmp hx hy hl' (i := i) (by omega) he (by omega)
        simp [retOf]
        exact hQ _ _ ⟨rfl, by rw [if_pos this]⟩
      · simp [h5, hmi]
        refine tx_elem (R := NR) (xs := x) (n := i) (a := d) (e := 3) (sz := 1) (ag := false) (by simpa using hA) (by simp [h5, hmi]) hd (by simp) (by simp) (by simp) (by decide) ?_
        rintro p4 u4 rfl
        simp [h5, hmi]
        refine tx_elem (R := NR) (xs := y) (n := i) (a := e) (e := 3) (sz := 1) (ag := false) (by simpa using hB) (by simp [h5, hmi]) he' (by simp) (by simp) (by simp) (by decide) ?_
        rintro p5 u5 rfl
        simp
        refine Brt.mkD (fun hgt => ?_) (fun hgt => ?_)
        · have := vald_cmp hy hx hl'.symm (i := i) (by omega) he.symm (by omega)
          simp [retOf]
          exact hQ _ _ ⟨rfl, by rw [if_neg (by omega), if_neg (by omega)]⟩
        · have hde : d = e := by omega
          simp [h5, hmi, hwi]
          refine hK i _ _ _ (by omega) ⟨rfl, by simp, by omega, ?_⟩
          rw [List.drop_eq_getElem_cons (show i < x.length by omega), List.drop_eq_getElem_cons (show i < y.length by omega), he]
          congr 1
          rw [gtE (by omega)] at hxd hye
          simp at hxd hye
          rw [hxd, hye, hde]
    · obtain rfl : m = 0 := by omega
      have hxy : x = y := by simpa using he
      simp [retOf]
      exact hQ _ _ ⟨rfl, by rw [hxy]; simp⟩
  · try simp
    refine tx_lnR (R := NR) (xs := x) (by simpa using hA) (by simp) ?_
    try simp
    refine tx_lnR (R := NR) (xs := y) (by simpa using hB) (by simp) ?_
    simp
    refine Brt.mkD (fun hlt => ?_) (fun hlt => ?_)
    · have := ty.lt_len hx (by omega)
      simp [retOf]
      exact hQ _ _ ⟨rfl, by rw [if_pos this]⟩
    · have := tx.lt_len hy (by omega)
      simp [retOf]
      exact hQ _ _ ⟨rfl, by rw [if_neg (by omega), if_neg (by omega)]⟩
theorem bneg_spec {v : Value} {z : Int} {H : SHeap} (hZ : ZN H v z) : SW prog 81 [v] H (fun u H1 => Ext H H1 ∧ ZN H1 u (-z)) := by
  refine SW.cps fun Q hQ => ?_
  obtain ⟨s, a, c, ds, rfl, hR, hD, hT, rfl, hs⟩ := hZ
  apply into_big_Neg (by simp)
  simp [Z_big_Neg]
  have hx0 : Ext H (H ++ [.dead, .dead]) := Ext.more H (by simp)
  have hR0 := hR.ext hx0
  simp [tzx_box]
  cases s with
  | true =>
    simp [retOf]
    exact hQ _ _ ⟨hx0, false, a, c, ds, rfl, hR0, hD, hT, by simp [sgn], fun _ => rfl⟩
  | false =>
    simp
    refine tx_lnR (R := NR) (xs := ds) (by simpa using hR0) (by simp) ?_
    simp [retOf]
    refine hQ _ _ ⟨hx0, decide (0 < ds.length), a, c, ds, rfl, hR0, hD, hT, ?_, fun h => by simp [h]⟩
    by_cases h : 0 < ds.length
    · simp [h, sgn]
    · have : ds = [] := List.eq_nil_of_length_eq_zero (by omega)
      subst this
      simp [sgn, vald]
theorem babs_spec {v : Value} {z : Int} {H : SHeap} (hZ : ZN H v z) : SW prog 53 [v] H (fun u H1 => Ext H H1 ∧ ZN H1 u z.natAbs) := by
  refine SW.cps fun Q hQ => ?_
  obtain ⟨s, a, c, ds, rfl, hR, hD, hT, rfl, hs⟩ := hZ
  apply into_big_Abs (by simp)
  simp [Z_big_Abs, retOf]
  have hx0 : Ext H (H ++ [.dead, .dead]) := Ext.more H (by simp)
  exact hQ _ _ ⟨hx0, false, a, c, ds, rfl, hR.ext hx0, hD, hT, by rw [sgn_abs]; rfl, fun _ => rfl⟩
theorem bsign_spec {v : Value} {z : Int} {H : SHeap} (hZ : ZN H v z) : SW prog 41 [v] H (fun u H1 => Ext H H1 ∧ u = .int .i64 (if z < 0 then -1 else if z = 0 then 0 else 1)) := by
  refine SW.cps fun Q hQ => ?_
  obtain ⟨s, a, c, ds, rfl, hR, hD, hT, rfl, hs⟩ := hZ
  apply into_big_Sign (by simp)
  simp [Z_big_Sign]
  have hx0 : Ext H (H ++ [.dead]) := Ext.dead H
  refine tx_lnR (R := NR) (xs := ds) (by simpa using hR.ext hx0) (by simp) ?_
  simp
  refine Brt.mkD (fun h0 => ?_) (fun h0 => ?_)
  · have h0 : ds = [] := by simpa using h0
    subst h0
    simp [retOf]
    exact hQ _ _ ⟨hx0, by cases s <;> simp [sgn, vald]⟩
  · have h0 : ds ≠ [] := by simpa using h0
    have hv : 0 < vald ds := by
      have := hT.zero
      rcases Nat.eq_zero_or_pos (vald ds) with h | h
      · exact absurd (this.1 h) h0
      · exact h
    cases s with
    | true =>
      simp [retOf]
      exact hQ _ _ ⟨hx0, by simp [sgn]; omega⟩
    | false =>
      try simp [retOf]
      refine hQ _ _ ⟨hx0, ?_⟩
      simp only [sgn, Bool.false_eq_true, if_false]
      rw [if_neg (by omega), if_neg (by omega)]
def PDs (H : SHeap) (u : Value) (n : Nat) (l : Nat) : Prop := ∃ a c ds, u = .slice a ds.length c ∧ DR H (.slice a ds.length c) ds ∧ Dg ds ∧ vald ds = n ∧ ds.length ≤ l
theorem vald_take_next (ds : List Nat) (i : Nat) : vald (ds.take (i + 1)) = vald (ds.take i) + 10000 ^ i * (ds[i]?.getD 0) := by
  by_cases hi : i < ds.length
  · exact vald_take_succ hi
  · rw [List.take_of_length_le (by omega), List.take_of_length_le (by omega), List.getElem?_eq_none (by omega)]
    simp
theorem plus_step {A B O c x y i : Nat} (h : O + 10000 ^ i * c = A + B) : O + 10000 ^ i * ((c + x + y) % 10000) + 10000 ^ (i + 1) * ((c + x + y) / 10000) = A + 10000 ^ i * x + (B + 10000 ^ i * y) := by
  have h3 : 10000 ^ i * ((c + x + y) % 10000) + 10000 ^ (i + 1) * ((c + x + y) / 10000) = 10000 ^ i * c + 10000 ^ i * x + 10000 ^ i * y := by
    rw [Nat.pow_succ, Nat.mul_assoc, ← Nat.mul_add, ← Nat.mul_add, ← Nat.mul_add]
    congr 1
    omega
  omega
theorem bplus_spec {v w : Value} {x y : List Nat} {H : SHeap} (hA : DR H v x) (hB : DR H w y) (hx : Dg x) (hy : Dg y) (hlx : x.length < 100000000000) (hly : y.length < 100000000000) :
    SW prog 82 [v, w] H (fun u H1 => Ext H H1 ∧ PDs H1 u (vald x + vald y) (max x.length y.length + 1)) := by
  refine SW.cps fun Q hQ => ?_
  apply into_big_plus (by simp)
  obtain ⟨a, c, rfl⟩ := Row.len hA
  obtain ⟨a2, c2, rfl⟩ := Row.len hB
  simp [Z_big_plus]
  refine tx_bs0 (e := 3) (sz := 1) (by simp) (by simp) ?_
  simp
  refine LoopZt.mk (by kernel_rfl) (fun m F1 G1 H1 => ∃ (i cy : Nat) (out : List Nat) (aa : Option Addr) (cc : Nat), m = max x.length y.length + 1 - i ∧ i ≤ max x.length y.length + 1 ∧ (i = max x.length y.length + 1 → cy = 0) ∧ cy ≤ 1 ∧ F1 7 = .int .i64 (i : Int) ∧ F1 6 = .int .i64 (cy : Int) ∧ F1 5 = .slice aa i cc ∧ out.length = i ∧ OwR H.length 3 1 false NR H1 (.slice aa i cc) out ∧ Dg out ∧ vald out + 10000 ^ i * cy = vald (x.take i) + vald (y.take i) ∧ Ext H H1) (max x.length y.length + 1) ⟨0, 0, [], some ⟨0, 0, none⟩, 0, by omega, by omega, fun _ => rfl, by omega, by simp, by simp, by simp, rfl, OwR.void _ _ _ _ _ _ _, Dg.nil, by simp [vald], Ext.refl _⟩ ?_
  rintro m F1 G1 H1 ⟨i, cy, out, aa, cc, rfl, hi, hic, hcy, h7, h6, h5, hol, hO, hOd, hv, hx1⟩ K hK
  simp at h7 h6 h5
  have hA1 := hA.ext hx1
  have hB1 := hB.ext hx1
  simp only [tzx_seq]
  refine ZXt.join (by kernel_rfl) (fun F2 G2 H2 => H2 = H1 ∧ F2 23 = .bool (decide (i < x.length ∨ i < y.length ∨ 0 < cy))) ?_ ?_
  · rintro K2 hK2 -
    simp [h7]
    refine tx_lnR (R := NR) (xs := x) (by simpa using hA1) (by simp) ?_
    simp [h7]
    by_cases hix : i < x.length
    · simp [hix]
      exact hK2 _ _ _ ⟨rfl, by simp [hix]⟩
    · simp [hix, h7]
      refine tx_lnR (R := NR) (xs := y) (by simpa using hB1) (by simp) ?_
      simp
      by_cases hiy : i < y.length
      · simp [hiy]
        exact hK2 _ _ _ ⟨rfl, by simp [hiy]⟩
      · simp [hiy, h6]
        exact hK2 _ _ _ ⟨rfl, by simp [hix, hiy]⟩
  · rintro F2 G2 H2 ⟨rfl, h23⟩
    simp only [mix_ap] at h23
    simp at h23
    simp [h23]
    refine Brt.mk (fun hb => ?_) (fun hb => ?_)
    · simp at hb
      have him : i < max x.length y.length + 1 := by omega
      have hxd := hx.get i
      have hyd := hy.get i
      simp [h6]
      refine ZXt.join (by kernel_rfl) (fun F3 G3 H3 => H3 = H2 ∧ F3 8 = .int .i64 ((cy + x[i]?.getD 0 : Nat) : Int)) ?_ ?_
      · rintro K3 hK3 -
        simp [h7]
        refine tx_lnR (R := NR) (xs := x) (by simpa using hA1) (by simp) ?_
        simp
        refine Brt.mkD (fun hlt => ?_) (fun hlt => ?_)
        · refine Exists.elim (⟨_, gtE hlt⟩ : ∃ d, x[i]? = some d) fun d hd => ?_
          have hw : IntKind.i64.wrap ((cy : Int) + (d : Int)) = ((cy + d : Nat) : Int) := by rw [hd] at hxd; simp at hxd; rw [w64 (by omega) (by omega)]; simp
          simp [h7]
          refine tx_elem (R := NR) (xs := x) (n := i) (a := d) (e := 3) (sz := 1) (ag := false) (by simpa using hA1) (by simp [h7]) hd (by simp) (by simp) (by simp) (by decide) ?_
          rintro p4 u4 rfl
          simp [hw]
          exact hK3 _ _ _ ⟨rfl, by simp [hd]⟩
        · have : x[i]? = none := List.getElem?_eq_none (by omega)
          try simp
          exact hK3 _ _ _ ⟨rfl, by simp [this]⟩
      · rintro F3 G3 H3 ⟨rfl, h8⟩
        simp only [mix_ap] at h8
        simp at h8
        refine ZXt.join (by kernel_rfl) (fun F4 G4 H4 => H4 = H3 ∧ F4 8 = .int .i64 ((cy + x[i]?.getD 0 + y[i]?.getD 0 : Nat) : Int)) ?_ ?_
        · rintro K4 hK4 -
          simp [h7]
          refine tx_lnR (R := NR) (xs := y) (by simpa using hB1) (by simp) ?_
          simp
          refine Brt.mkD (fun hlt => ?_) (fun hlt => ?_)
          · refine Exists.elim (⟨_, gtE hlt⟩ : ∃ d, y[i]? = some d) fun d hd => ?_
            have hw : IntKind.i64.wrap ((cy : Int) + (x[i]?.getD 0 : Nat) + (d : Int)) = ((cy + x[i]?.getD 0 + d : Nat) : Int) := by rw [hd] at hyd; simp at hyd; rw [w64 (by omega) (by omega)]; simp
            simp [h7, h8]
            refine tx_elem (R := NR) (xs := y) (n := i) (a := d) (e := 3) (sz := 1) (ag := false) (by simpa using hB1) (by simp [h7]) hd (by simp) (by simp) (by simp) (by decide) ?_
            rintro p5 u5 rfl
            simp [hw]
            exact hK4 _ _ _ ⟨rfl, by simp [hd]⟩
          · have : y[i]? = none := List.getElem?_eq_none (by omega)
            try simp
            exact hK4 _ _ _ ⟨rfl, by simp [this, h8]⟩
        · rintro F4 G4 H4 ⟨rfl, h8⟩
          simp only [mix_ap] at h8
          simp at h8
          refine Exists.elim (⟨_, rfl⟩ : ∃ S, S = cy + x[i]?.getD 0 + y[i]?.getD 0) fun S hS => ?_
          have h8' : F4 8 = .int .i64 (S : Int) := by rw [h8, hS]; simp
          have hSb : S < 20000 := by omega
          have hm1 : (S : Int).tmod 10000 = ((S % 10000 : Nat) : Int) := rfl
          have hm2 : (S : Int).tdiv 10000 = ((S / 10000 : Nat) : Int) := rfl
          have hw2 : IntKind.i64.wrap ((S : Int) / 10000) = (S : Int) / 10000 := w64 (by omega) (by omega)
          have hw3 : IntKind.i64.wrap ((i : Int) + 1) = ((i + 1 : Nat) : Int) := by rw [w64 (by omega) (by omega)]; simp
          have hl1 := Ext.len hx1
          simp [h5, h8', hm1]
          refine tx_pushS (k := H.length) (e := 3) (sz := 1) (ag := false) (by_ := 8) (z := .int .i64 0) (R := NR) (xs := out) (a := S % 10000) (by simpa using hO) (by simp [NR]) (by simpa using wh_int _) (by simp) (fun _ _ _ _ _ h => h) (by simp) (by simp) (by simp) (by simp) (by simp) (by rfl) (by rfl) (by rfl) (by rfl) (by decide) (by decide) (by decide) (by omega) (by omega) ?_
          intro p6 a6 c6 H6 hO6 hx6 hk6
          rw [hol] at hO6
          simp only [hol]
          simp [h8', h7, hm2, hw2, hw3]
          refine hK (max x.length y.length + 1 - (i + 1)) _ _ _ (by omega) ⟨i + 1, S / 10000, out ++ [S % 10000], a6, c6, rfl, by omega, fun he => ?_, by omega, by simp, by simp, by simp, by simp [hol], hO6, hOd.snoc (Nat.mod_lt _ (by decide)), ?_, hx6 _ (Nat.le_refl _) hx1⟩
          · have h1 : x[i]? = none := List.getElem?_eq_none (by omega)
            have h2 : y[i]? = none := List.getElem?_eq_none (by omega)
            rw [h1, h2] at hS
            simp at hS
            omega
          · rw [vald_snoc, hol, vald_take_next x i, vald_take_next y i, hS]
            exact plus_step hv
    · simp at hb
      have hcy0 : cy = 0 := by omega
      have hxt : x.take i = x := List.take_of_length_le (by omega)
      have hyt : y.take i = y := List.take_of_length_le (by omega)
      rw [hcy0, hxt, hyt] at hv
      simp [h5, retOf]
      refine hQ _ _ ⟨hx1, aa, cc, out, by rw [hol], by rw [hol]; exact hO.row, hOd, by omega, by omega⟩
theorem less_step {A B O : Nat} {i x y b d b' : Nat} (h : A + 10000 ^ i * b = O + B) (hs : x + 10000 * b' = d + y + b) : A + 10000 ^ i * x + 10000 ^ (i + 1) * b' = O + 10000 ^ i * d + (B + 10000 ^ i * y) := by
  have h3 : 10000 ^ i * x + 10000 ^ (i + 1) * b' = 10000 ^ i * d + 10000 ^ i * y + 10000 ^ i * b := by
    rw [Nat.pow_succ, Nat.mul_assoc, ← Nat.mul_add, ← Nat.mul_add, ← Nat.mul_add, hs]
  omega
theorem bless_spec {v w : Value} {x y : List Nat} {H : SHeap} (hA : DR H v x) (hB : DR H w y) (hx : Dg x) (hy : Dg y) (hlx : x.length < 100000000000) (hle : vald y ≤ vald x) (hyx : y.length ≤ x.length) :
    SW prog 84 [v, w] H (fun u H1 => Ext H H1 ∧ PDs H1 u (vald x - vald y) x.length) := by
  refine SW.cps fun Q hQ => ?_
  apply into_big_less (by simp)
  obtain ⟨a, c, rfl⟩ := Row.len hA
  obtain ⟨a2, c2, rfl⟩ := Row.len hB
  simp [Z_big_less]
  refine tx_bs0 (e := 3) (sz := 1) (by simp) (by simp) ?_
  simp
  refine LoopZt.mk (by kernel_rfl) (fun m F1 G1 H1 => ∃ (i bo : Nat) (out : List Nat) (aa : Option Addr) (cc : Nat), m = x.length - i ∧ i ≤ x.length ∧ bo ≤ 1 ∧ F1 7 = .int .i64 (i : Int) ∧ F1 6 = .int .i64 (bo : Int) ∧ F1 5 = .slice aa i cc ∧ out.length = i ∧ OwR H.length 3 1 false NR H1 (.slice aa i cc) out ∧ Dg out ∧ vald (x.take i) + 10000 ^ i * bo = vald out + vald (y.take i) ∧ Ext H H1) x.length ⟨0, 0, [], some ⟨0, 0, none⟩, 0, by omega, by omega, by omega, by simp, by simp, by simp, rfl, OwR.void _ _ _ _ _ _ _, Dg.nil, by simp [vald], Ext.refl _⟩ ?_
  rintro m F1 G1 H1 ⟨i, bo, out, aa, cc, rfl, hi, hbo, h7, h6, h5, hol, hO, hOd, hv, hx1⟩ K hK
  simp at h7 h6 h5
  have hA1 := hA.ext hx1
  have hB1 := hB.ext hx1
  simp [h7]
  refine tx_lnR (R := NR) (xs := x) (by simpa using hA1) (by simp) ?_
  simp
  refine Brt.mkD (fun hix => ?_) (fun hix => ?_)
  · refine Exists.elim (⟨_, gtE hix⟩ : ∃ d, x[i]? = some d) fun d hd => ?_
    have hdx : x[i]?.getD 0 = d := by rw [hd]; rfl
    have hdb : d < 10000 := hdx ▸ hx.get i
    have hyb := hy.get i
    have hw : IntKind.i64.wrap ((d : Int) - (bo : Int)) = (d : Int) - (bo : Int) := w64 (by omega) (by omega)
    simp [h7]
    refine tx_elem (R := NR) (xs := x) (n := i) (a := d) (e := 3) (sz := 1) (ag := false) (by simpa using hA1) (by simp [h7]) hd (by simp) (by simp) (by simp) (by decide) ?_
    rintro p4 u4 rfl
    simp [h6, hw]
    refine ZXt.join (by kernel_rfl) (fun F3 G3 H3 => H3 = H1 ∧ F3 8 = .int .i64 ((d : Int) - (bo : Int) - (y[i]?.getD 0 : Nat))) ?_ ?_
    · rintro K3 hK3 -
      simp [h7]
      refine tx_lnR (R := NR) (xs := y) (by simpa using hB1) (by simp) ?_
      simp
      refine Brt.mkD (fun hlt => ?_) (fun hlt => ?_)
      · refine Exists.elim (⟨_, gtE hlt⟩ : ∃ d, y[i]? = some d) fun e he => ?_
        have hw2 : IntKind.i64.wrap ((d : Int) - (bo : Int) - (e : Int)) = (d : Int) - (bo : Int) - (e : Int) := by rw [he] at hyb; simp at hyb; exact w64 (by omega) (by omega)
        simp [h7]
        refine tx_elem (R := NR) (xs := y) (n := i) (a := e) (e := 3) (sz := 1) (ag := false) (by simpa using hB1) (by simp [h7]) he (by simp) (by simp) (by simp) (by decide) ?_
        rintro p5 u5 rfl
        simp [hw2]
        exact hK3 _ _ _ ⟨rfl, by simp [he]⟩
      · have : y[i]? = none := List.getElem?_eq_none (by omega)
        try simp
        exact hK3 _ _ _ ⟨rfl, by simp [this]⟩
    · rintro F3 G3 H3 ⟨rfl, h8⟩
      simp only [mix_ap] at h8
      simp at h8
      refine Exists.elim (⟨_, rfl⟩ : ∃ e, e = y[i]?.getD 0) fun e he => ?_
      rw [← he] at h8 hyb
      simp
      refine ZXt.join (by kernel_rfl) (fun F4 G4 H4 => H4 = H3 ∧ ∃ dd b' : Nat, F4 8 = .int .i64 (dd : Int) ∧ F4 6 = .int .i64 (b' : Int) ∧ dd < 10000 ∧ b' ≤ 1 ∧ d + 10000 * b' = dd + e + bo) ?_ ?_
      · rintro K4 hK4 -
        simp [h8]
        refine Brt.mkD (fun hneg => ?_) (fun hneg => ?_)
        · have hw3 : IntKind.i64.wrap ((d : Int) - (bo : Int) - (e : Int) + 10000) = (d : Int) - (bo : Int) - (e : Int) + 10000 := w64 (by omega) (by omega)
          simp [h8, hw3]
          refine hK4 _ _ _ ⟨rfl, ((d : Int) - (bo : Int) - (e : Int) + 10000).toNat, 1, by simp; omega, by simp, by omega, by omega, by omega⟩
        · try simp
          refine hK4 _ _ _ ⟨rfl, ((d : Int) - (bo : Int) - (e : Int)).toNat, 0, by simp [h8]; omega, by simp, by omega, by omega, by omega⟩
      · rintro F4 G4 H4 ⟨rfl, dd, b', h8', h6', hdd, hb', hst⟩
        simp only [mix_ap] at h8' h6'
        simp at h8' h6'
        have hw3 : IntKind.i64.wrap ((i : Int) + 1) = ((i + 1 : Nat) : Int) := by rw [w64 (by omega) (by omega)]; simp
        have hl1 := Ext.len hx1
        simp [h5, h8']
        refine tx_pushS (k := H.length) (e := 3) (sz := 1) (ag := false) (by_ := 8) (z := .int .i64 0) (R := NR) (xs := out) (a := dd) (by simpa using hO) (by simp [NR, h8']) (by simpa [h8'] using wh_int _) (by simp) (fun _ _ _ _ _ h => h) (by simp) (by simp) (by simp) (by simp) (by simp) (by rfl) (by rfl) (by rfl) (by rfl) (by decide) (by decide) (by decide) (by omega) (by omega) ?_
        intro p6 a6 c6 H6 hO6 hx6 hk6
        rw [hol] at hO6
        simp only [hol]
        simp [h7, hw3]
        refine hK (x.length - (i + 1)) _ _ _ (by omega) ⟨i + 1, b', out ++ [dd], a6, c6, rfl, by omega, hb', by simp, by simp [h6'], by simp, by simp [hol], hO6, hOd.snoc hdd, ?_, hx6 _ (Nat.le_refl _) hx1⟩
        rw [vald_snoc, hol, vald_take_next x i, vald_take_next y i, hdx, ← he]
        exact less_step hv hst
  · obtain rfl : i = x.length := by omega
    have hyt : y.take x.length = y := List.take_of_length_le (by omega)
    rw [List.take_length, hyt] at hv
    have hob := vald_lt hOd
    rw [hol] at hob
    have hbo0 : 10000 ^ x.length * bo = 0 := by
      rcases Nat.eq_zero_or_pos bo with h | h
      · rw [h]; rfl
      · have : bo = 1 := by omega
        rw [this] at hv
        omega
    simp [h5, retOf]
    exact hQ _ _ ⟨hx1, aa, cc, out, by rw [hol], by rw [hol]; exact hO.row, hOd, by omega, by omega⟩
end Go.Sx
end
