/- Part of the proof of ShopPlans. -/
import Derived.Test.YtoiodfcefbapkaaGreatShopPlansG
set_option linter.unusedVariables false
set_option linter.unusedSimpArgs false
section
namespace Go.Sx
def EqR (H : SHeap) (u w : Value) : Prop := u = w
instance : Mono EqR := ⟨fun h _ => h⟩
def Grown (H : SHeap) (s v : Value) : Prop := ∀ b, inBlock v b → inBlock s b ∨ H.length ≤ b
section
variable {P : Program} {r : List XOp} {F : Fr} {H : SHeap} {Q : Fr → SHeap → Prop} {α : Type}
theorem tx_app1B {bb : Bool} {d1 d2 t ts tx e sz by_ k n : Nat} {s x : Operand} {z : Value} {cs : List Value} {tk : Tok ((⟨bb, none, some d1, .buildSlice t 1 #[(0, x)]⟩ : XOp) :: ap d2 ts tx s (T d1) :: r) Q} (hO : Ow H k e sz (fev F s) n cs) (hs1 : ∀ v, fev (upd F d1 v) s = fev F s)
    (ht : P.underlying t = some (.slice e)) (hu : P.underlying ts = some (.slice e)) (hx : srcT P tx = true) (hs : sz? P e = some sz) (hb : bytes? P e = some by_) (hz : zero? P e = some z) (hzf : flat z = true) (hzs : z.cells.size = sz) (hsz : 0 < sz) (hsz' : sz ≤ 1000)
    (hby : 0 < by_) (hfit : (n + 1) * by_ ≤ 140737488355328) (hv : (fev F x).cells.toList.length = sz) (h1c : ((fev F x).cells.toList.all (·.oneCell')) = true) (hk : k ≤ H.length)
    (K : ∀ u v' H', Ow H' k e sz v' (n + 1) (cs ++ (fev F x).cells.toList) → (∀ H0 : SHeap, H0.length ≤ k → Ext H0 H → Ext H0 H') → Kept H H' (fev F s) e → Grown H (fev F s) v' → H.length ≤ H'.length → XWt P r Q .mk (upd (upd F d1 u) d2 v') H') :
    XWt P ((⟨bb, none, some d1, .buildSlice t 1 #[(0, x)]⟩ : XOp) :: ap d2 ts tx s (T d1) :: r) Q tk F H := by
  have hml : (made z (1 * sz)).length = sz := by rw [made_len, Nat.one_mul]
  have ho : fillP (fun i => some (i * sz, sz)) (made z (1 * sz)) [(0, fev F x)] = some (fev F x).cells.toList := by
    simp only [fillP]
    rw [if_pos ⟨hv, by rw [hml]; omega⟩]
    have := setAll_full (fev F x).cells.toList (made z (1 * sz)) [] (by rw [hml, hv])
    simpa using this
  have hf : Instr.fill (fun i => some (i * sz, sz)) (made z (1 * sz)).toArray ((#[(0, x)] : Array (Nat × Operand)).toList.map fun p => (p.1, fev F p.2)) = some (fev F x).cells := by
    rw [fill_eq]
    simp only [List.map_cons, List.map_nil]
    rw [ho]
    simp
  have hq : ∀ o : Oper, o.op = .buildSlice t 1 #[(0, x)] → MOp P (fev F) H o (.slice (some ⟨H.length, 0, none⟩) 1 1) (H ++ [.own e false (fev F x).cells.toList]) := fun o ho' => .build (out := (fev F x).cells) ho' ht hs hz hzf hzs hsz (by omega) (by omega) hf (by have := hv; simp at this; omega)
  refine tx_mx rfl rfl rfl hq (fun o ho => by simp [isF, ho]) (.inr ((Ext.refl H).snoc _ _ _)) ?_
  show XWt P (ap d2 ts tx s (T d1) :: r) Q .mk (upd F d1 _) _
  have hsrc : Src (H ++ [.own e false (fev F x).cells.toList]) sz (.slice (some ⟨H.length, 0, none⟩) 1 1) 1 1 (fev F x).cells.toList := by
    have := Src.row (H := H ++ [.own e false (fev F x).cells.toList]) (sz := sz) (b := H.length) (i := 0) (n := 1) (m := 1) (c := 1) (x := .own e false (fev F x).cells.toList) (cs := (fev F x).cells.toList) (by simp) rfl (by omega) (Nat.le_refl _) (by omega)
    rw [List.drop_zero, Nat.one_mul, ← hv, List.take_length] at this
    rw [hv] at this
    exact this
  have hO' : Ow (H ++ [.own e false (fev F x).cells.toList]) k e sz (fev (upd F d1 (.slice (some ⟨H.length, 0, none⟩) 1 1)) s) n cs := by
    rw [hs1]
    exact hO.ext ((Ext.refl H).snoc _ _ _)
  refine tx_ap hO' (by simpa [fev, T, upd] using hsrc) hu hx hs hb hz hzs hby hfit h1c (by omega) (by simp; omega) fun v' H' h1 h2 h3 h4 h5 => ?_
  refine K _ v' H' h1 (fun H0 h0 hx0 => h2 H0 h0 (hx0.snoc _ _ _)) (fun b X hX hb => h3 b X ?_ (by rw [hs1]; exact hb)) (fun b hb => ?_) (by simp at h5; omega)
  · rw [List.getElem?_append_left (gsI.1 hX).1]
    exact hX
  · have := h4 b hb
    rw [hs1] at this
    simp at this
    rcases this with h | h
    · exact .inl h
    · exact .inr (by omega)
theorem tx_pushB {bb : Bool} {d1 d2 t ts tx e sz by_ k : Nat} {ag : Bool} {s x : Operand} {z : Value} {R : SHeap → Value → α → Prop} {xs : List α} {a : α} {tk : Tok ((⟨bb, none, some d1, .buildSlice t 1 #[(0, x)]⟩ : XOp) :: ap d2 ts tx s (T d1) :: r) Q} (hO : OwR k e sz ag R H (fev F s) xs) (ha : R H (fev F x) a)
    (hw : Whole P e (fev F x)) (hs1 : ∀ v, fev (upd F d1 v) s = fev F s) (hRk : ∀ H' s' u y, Kept H H' s' e → R H u y → R H' u y)
    (ht : P.underlying t = some (.slice e)) (hu : P.underlying ts = some (.slice e)) (hx : srcT P tx = true) (hs : sz? P e = some sz) (hag : aggB P e = some ag) (hb : bytes? P e = some by_) (hz : zero? P e = some z) (hzf : flat z = true) (hzs : z.cells.size = sz) (hsz : 0 < sz) (hsz' : sz ≤ 1000)
    (hby : 0 < by_) (hfit : (xs.length + 1) * by_ ≤ 140737488355328) (hk : k ≤ H.length)
    (K : ∀ p v' H', OwR k e sz ag R H' v' (xs ++ [a]) → (∀ H0 : SHeap, H0.length ≤ k → Ext H0 H → Ext H0 H') → Kept H H' (fev F s) e → Grown H (fev F s) v' → H.length ≤ H'.length → XWt P r Q .mk (upd (upd F d1 p) d2 v') H') :
    XWt P ((⟨bb, none, some d1, .buildSlice t 1 #[(0, x)]⟩ : XOp) :: ap d2 ts tx s (T d1) :: r) Q tk F H := by
  obtain ⟨cs, hO1, hO2⟩ := hO
  have hcl := hO1.1
  have hsz2 : (fev F x).cells.size = sz := by have := hw.1; rw [hs] at this; exact (Option.some.inj this).symm
  have h1 : ag = true ∨ sz = 1 := by
    cases ag with
    | true => exact .inl rfl
    | false =>
      refine .inr ?_
      have w3 := hw.2.2
      cases hq : isAg (fev F x) with
      | true => rw [hq] at w3; simp at w3; rw [w3] at hag; cases hag
      | false => rw [hq] at w3; simp at w3; rw [← hsz2, w3.2]; rfl
  refine tx_app1B hO1 hs1 ht hu hx hs hb hz hzf hzs hsz hsz' hby hfit (by simp [hsz2]) hw.2.1 hk fun p v' H' q1 q2 q3 q4 q5 => K p v' H' ⟨_, by simpa using q1, fun i y hy => ?_⟩ q2 q3 q4 q5
  by_cases hi : i < xs.length
  · rw [List.getElem?_append_left hi] at hy
    rw [elV_append_lt hcl hi h1]
    exact hRk _ _ _ _ q3 (hO2 i y hy)
  · have hin : i = xs.length := by
      have := (gsI.1 hy).1
      simp at this
      omega
    subst hin
    rw [List.getElem?_append_right (Nat.le_refl _), Nat.sub_self] at hy
    simp at hy
    subst hy
    rw [elV_append_eq hcl hw hs hag]
    exact hRk _ _ _ _ q3 ha
end
section
variable {α : Type} {P : Program} {e sz k : Nat} {ag : Bool} {R : SHeap → Value → α → Prop} {H H' : SHeap} {v s : Value} {xs : List α}
theorem Row.ones {cs : List Value} (hY : ∀ i x, xs[i]? = some x → R H (elV ag sz cs i) x) (hl : cs.length = xs.length * sz) (hRw : ∀ u y, R H u y → Whole P e u) (hag : aggB P e = some ag) (h1 : ag = true ∨ sz = 1) : (cs.all (·.oneCell')) = true := by
  rw [List.all_eq_true]
  intro u hu'
  obtain ⟨j, hj⟩ := List.getElem?_of_mem hu'
  have hjl : j < xs.length * sz := by have := (gsI.1 hj).1; omega
  have hsz : 0 < sz := by rcases Nat.eq_zero_or_pos sz with q | q; · subst q; simp at hjl
                          exact q
  have hil : j / sz < xs.length := Nat.div_lt_of_lt_mul (by rw [Nat.mul_comm]; exact hjl)
  have hw := hRw _ _ (hY _ _ (gtE hil))
  have hmem : u ∈ (elV ag sz cs (j / sz)).cells.toList := by
    unfold elV
    cases ag with
    | true =>
      simp only [if_true, Value.cells, List.toList_toArray]
      have hdm := Nat.div_add_mod j sz
      have hml := Nat.mod_lt j hsz
      rw [Nat.mul_comm] at hdm
      refine List.mem_of_getElem? (i := j % sz) ?_
      rw [List.getElem?_take_of_lt hml, List.getElem?_drop, hdm]
      exact hj
    | false =>
      have hs1 : sz = 1 := by rcases h1 with h | h; cases h; exact h
      subst hs1
      have hj' : cs[j / 1]? = some u := by rw [Nat.div_one]; exact hj
      simp only [elV, Bool.false_eq_true, if_false] at hw ⊢
      rw [hj'] at hw ⊢
      simp only [Option.getD_some] at hw ⊢
      have w3 := hw.2.2
      cases hq : isAg u with
      | false => rw [hq] at w3; simp at w3; rw [w3.2]; simp
      | true =>
        rw [hq] at w3
        simp at w3
        rw [w3] at hag
        cases hag
  exact List.all_eq_true.1 hw.2.1 u hmem
theorem OwR.beside {e' : Nat} (h : OwR k e sz ag R H v xs) (hk0 : 0 < k) (hk : Kept H H' s e') (hne : ∀ b, 0 < b → inBlock v b → ¬ inBlock s b) (hR : ∀ u x, R H u x → R H' u x) : OwR k e sz ag R H' v xs := by
  obtain ⟨cs, ⟨h1, h2⟩, h3⟩ := h
  refine ⟨cs, ⟨h1, ?_⟩, fun i x hi => hR _ _ (h3 i x hi)⟩
  rcases h2 with h2 | ⟨c, i, cap, l, all, q1, q2, q3, q4, q5, q6⟩
  · exact .inl h2
  · exact .inr ⟨c, i, cap, l, all, q1, q2, q3, q4, hk _ _ q5 fun hb => absurd hb (hne c (by omega) ⟨i, _, cap, q1⟩), q6⟩
theorem OwR.other {e' : Nat} (h : OwR k e sz ag R H v xs) (hk : Kept H H' s e') (hne : e ≠ e') (hR : ∀ u x, R H u x → R H' u x) : OwR k e sz ag R H' v xs := by
  obtain ⟨cs, ⟨h1, h2⟩, h3⟩ := h
  refine ⟨cs, ⟨h1, ?_⟩, fun i x hi => hR _ _ (h3 i x hi)⟩
  rcases h2 with h2 | ⟨c, i, cap, l, all, q1, q2, q3, q4, q5, q6⟩
  · exact .inl h2
  · exact .inr ⟨c, i, cap, l, all, q1, q2, q3, q4, hk _ _ q5 fun _ => by simp [SObj.elem?]; exact hne, q6⟩
theorem OwR.le {k' : Nat} (h : OwR k e sz ag R H v xs) (hk : k' ≤ k) : OwR k' e sz ag R H v xs := by
  obtain ⟨cs, ⟨h1, h2⟩, h3⟩ := h
  refine ⟨cs, ⟨h1, ?_⟩, h3⟩
  rcases h2 with h2 | ⟨c, i, cap, l, all, q1, q2, q3, q4, q5, q6⟩
  · exact .inl h2
  · exact .inr ⟨c, i, cap, l, all, q1, q2, q3, by omega, q5, q6⟩
theorem OwR.ge (h : OwR k e sz ag R H v xs) {b : Nat} (hb : inBlock v b) (h0 : 0 < b) : k ≤ b ∧ b < H.length := by
  obtain ⟨cs, ⟨h1, h2⟩, h3⟩ := h
  obtain ⟨i', n', c', hv⟩ := hb
  rcases h2 with ⟨-, h2 | ⟨i, h2⟩⟩ | ⟨c, i, cap, l, all, q1, q2, q3, q4, q5, q6⟩
  · rw [hv] at h2; simp at h2
  · rw [hv] at h2; simp at h2; try omega
  · rw [hv] at q1; simp at q1
    have := (gsI.1 q5).1
    omega
end
structure OTab {α : Type} (k e2 e sz : Nat) (ag : Bool) (R : SHeap → Value → α → Prop) (H : SHeap) (v : Value) (t : List (List α)) (us : List Value) : Prop where
  pos : 0 < k
  own : OwR k e2 1 false EqR H v us
  len : us.length = t.length
  rows : ∀ (i : Nat) (row : List α) (u : Value), t[i]? = some row → us[i]? = some u → OwR k e sz ag R H u row
  dis : ∀ (i j b : Nat) (u w : Value), us[i]? = some u → us[j]? = some w → 0 < b → inBlock u b → inBlock w b → i = j
section
variable {α : Type} {P : Program} {e2 e sz k : Nat} {ag : Bool} {R : SHeap → Value → α → Prop} {H H' H'' : SHeap} {v s v' : Value} {t : List (List α)} {us : List Value}
theorem OTab.row_at (h : OTab k e2 e sz ag R H v t us) {i : Nat} {row : List α} (hi : t[i]? = some row) : ∃ u, us[i]? = some u ∧ OwR k e sz ag R H u row := by
  have hil : i < us.length := by rw [h.len]; exact (gsI.1 hi).1
  exact ⟨_, gtE hil, h.rows i row _ hi (gtE hil)⟩
theorem OTab.ext [Mono R] (h : OTab k e2 e sz ag R H v t us) (hx : Ext H H') : OTab k e2 e sz ag R H' v t us :=
  ⟨h.pos, Mono.ext (R := OwR k e2 1 false EqR) h.own hx, h.len, fun i row u h1 h2 => Mono.ext (R := OwR k e sz ag R) (h.rows i row u h1 h2) hx, h.dis⟩
theorem OTab.row (h : OTab k e2 e sz ag R H v t us) : Row e2 1 false (Row e sz ag R) H v t := by
  obtain ⟨cs, h1, h2⟩ := h.own
  refine ⟨cs, by rw [← h.len]; exact h1.sl, fun i row hi => ?_⟩
  obtain ⟨u, hu, hO⟩ := h.row_at hi
  have := h2 i u hu
  rw [show elV false 1 cs i = u from this]
  exact hO.row
theorem OTab.nil (k e2 e sz : Nat) (ag : Bool) (R : SHeap → Value → α → Prop) (H : SHeap) (hk : 0 < k) : OTab k e2 e sz ag R H (.slice none 0 0) [] [] :=
  ⟨hk, OwR.nil _ _ _ _ _ _, rfl, fun i row u h => by simp at h, fun i j b u w h => by simp at h⟩
theorem OTab.mk0 {n : Nat} (hk : 0 < k) (h : OwR k e2 1 false EqR H v (List.replicate n (.slice none 0 0))) : OTab k e2 e sz ag R H v (List.replicate n ([] : List α)) (List.replicate n (.slice none 0 0)) := by
  refine ⟨hk, h, by simp, fun i row u h1 h2 => ?_, fun i j b u w h1 h2 _ h3 => ?_⟩
  · rw [List.getElem?_replicate] at h1 h2
    split at h1
    · rw [if_pos ‹_›] at h2
      cases h1; cases h2
      exact OwR.nil _ _ _ _ _ _
    · cases h1
  · rw [List.getElem?_replicate] at h1
    split at h1
    · cases h1
      obtain ⟨i', n', c', h3⟩ := h3
      simp at h3
    · cases h1
theorem OTab.put {i : Nat} {u : Value} {row' : List α} (h : OTab k e2 e sz ag R H v t us) (hu : us[i]? = some u) (hne : e ≠ e2) (hk : Kept H H' u e) (hg : Grown H u v') (hrow : OwR k e sz ag R H' v' row') (hR1 : ∀ u x, R H u x → R H' u x)
    (hO : OwR k e2 1 false EqR H'' v (us.set i v')) (hk2 : Kept H' H'' v e2) (hR2 : ∀ u x, R H' u x → R H'' u x) : OTab k e2 e sz ag R H'' v (t.set i row') (us.set i v') := by
  have hil := (gsI.1 hu).1
  refine ⟨h.pos, hO, by simp [h.len], fun j row w h1 h2 => ?_, fun j j' b w w' h1 h2 h0 h3 h4 => ?_⟩
  · by_cases hji : i = j
    · subst hji
      rw [List.getElem?_set_self hil] at h2
      rw [List.getElem?_set_self (by rw [← h.len]; exact hil)] at h1
      cases h1; cases h2
      exact hrow.other hk2 hne hR2
    · rw [List.getElem?_set_ne hji] at h1 h2
      refine ((h.rows j row w h1 h2).beside h.pos hk (fun b h0 hb hb' => hji (h.dis i j b u w hu h2 h0 hb' hb)) hR1).other hk2 hne hR2
  · have fresh : ∀ (j : Nat) (w : Value), us[j]? = some w → i ≠ j → inBlock w b → ¬ inBlock v' b := fun j w hw hij hb hb' => by
      rcases hg b hb' with q | q
      · exact hij (h.dis i j b u w hu hw h0 q hb)
      · have hjt : j < t.length := by rw [← h.len]; exact (gsI.1 hw).1
        have := (h.rows j _ w (gtE hjt) hw).ge hb h0
        omega
    by_cases hji : i = j
    · subst hji
      rw [List.getElem?_set_self hil] at h1
      cases h1
      by_cases hji' : i = j'
      · exact hji'
      · rw [List.getElem?_set_ne hji'] at h2
        exact absurd h3 (fresh j' w' h2 hji' h4)
    · rw [List.getElem?_set_ne hji] at h1
      by_cases hji' : i = j'
      · subst hji'
        rw [List.getElem?_set_self hil] at h2
        cases h2
        exact absurd h4 (fresh j w h1 hji h3)
      · rw [List.getElem?_set_ne hji'] at h2
        exact h.dis j j' b w w' h1 h2 h0 h3 h4
theorem OTab.inner {i : Nat} {u : Value} {row' : List α} (h : OTab k e2 e sz ag R H v t us) (hu : us[i]? = some u) (hne : e ≠ e2) (hk : Kept H H' u e) (hrow : OwR k e sz ag R H' u row') (hR1 : ∀ u x, R H u x → R H' u x) : OTab k e2 e sz ag R H' v (t.set i row') us := by
  have hil := (gsI.1 hu).1
  refine ⟨h.pos, h.own.other hk (Ne.symm hne) fun _ _ h => h, by simp [h.len], fun j row w h1 h2 => ?_, h.dis⟩
  by_cases hji : i = j
  · subst hji
    rw [List.getElem?_set_self (by rw [← h.len]; exact hil)] at h1
    rw [hu] at h2
    cases h1; cases h2
    exact hrow
  · rw [List.getElem?_set_ne hji] at h1
    exact (h.rows j row w h1 h2).beside h.pos hk (fun b h0 hb hb' => hji (h.dis i j b u w hu h2 h0 hb' hb)) hR1
theorem OTab.putNew {i n0 : Nat} {row' : List α} (h : OTab k e2 e sz ag R H v t us) (hil : i < t.length) (hn : ∀ b, 0 < b → inBlock v' b → n0 ≤ b) (hlt : ∀ (j : Nat) (w : Value) (b : Nat), us[j]? = some w → inBlock w b → 0 < b → b < n0) (hne : e ≠ e2) (hrow : OwR k e sz ag R H v' row')
    (hO : OwR k e2 1 false EqR H'' v (us.set i v')) (hk2 : Kept H H'' v e2) (hR2 : ∀ u x, R H u x → R H'' u x) : OTab k e2 e sz ag R H'' v (t.set i row') (us.set i v') := by
  have hil' : i < us.length := by rw [h.len]; exact hil
  refine ⟨h.pos, hO, by simp [h.len], fun j row w h1 h2 => ?_, fun j j' b w w' h1 h2 h0 h3 h4 => ?_⟩
  · by_cases hji : i = j
    · subst hji
      rw [List.getElem?_set_self hil'] at h2
      rw [List.getElem?_set_self hil] at h1
      cases h1; cases h2
      exact hrow.other hk2 hne hR2
    · rw [List.getElem?_set_ne hji] at h1 h2
      exact (h.rows j row w h1 h2).other hk2 hne hR2
  · by_cases hji : i = j
    · subst hji
      rw [List.getElem?_set_self hil'] at h1
      cases h1
      by_cases hji' : i = j'
      · exact hji'
      · rw [List.getElem?_set_ne hji'] at h2
        have := hlt _ _ _ h2 h4 h0
        have := hn _ h0 h3
        omega
    · rw [List.getElem?_set_ne hji] at h1
      by_cases hji' : i = j'
      · subst hji'
        rw [List.getElem?_set_self hil'] at h2
        cases h2
        have := hlt _ _ _ h1 h3 h0
        have := hn _ h0 h4
        omega
      · rw [List.getElem?_set_ne hji'] at h2
        exact h.dis j j' b w w' h1 h2 h0 h3 h4
theorem OTab.snoc {row' : List α} {v2 : Value} {H0 : SHeap} {n0 : Nat} (h : OTab k e2 e sz ag R H v t us) (hn : ∀ b, 0 < b → inBlock v' b → n0 ≤ b) (hlt : ∀ (j : Nat) (w : Value) (b : Nat), us[j]? = some w → inBlock w b → 0 < b → b < n0) (hne : e ≠ e2) (hrow : OwR k e sz ag R H v' row')
    (hO : OwR k e2 1 false EqR H'' v2 (us ++ [v'])) (hk2 : Kept H H'' v e2) (hR2 : ∀ u x, R H u x → R H'' u x) : OTab k e2 e sz ag R H'' v2 (t ++ [row']) (us ++ [v']) := by
  refine ⟨h.pos, hO, by simp [h.len], fun j row w h1 h2 => ?_, fun j j' b w w' h1 h2 h0 h3 h4 => ?_⟩
  · by_cases hji : j < t.length
    · rw [List.getElem?_append_left hji] at h1
      rw [List.getElem?_append_left (by rw [h.len]; exact hji)] at h2
      exact (h.rows j row w h1 h2).other hk2 hne hR2
    · rw [List.getElem?_append_right (by omega)] at h1
      rw [List.getElem?_append_right (by rw [h.len]; omega)] at h2
      have hj0 : j - t.length = 0 := by
        have := (gsI.1 h1).1
        simp at this; omega
      rw [hj0] at h1
      rw [h.len, hj0] at h2
      simp at h1 h2
      subst h1; subst h2
      exact hrow.other hk2 hne hR2
  · have hj : ∀ (j : Nat) (w : Value), (us ++ [v'])[j]? = some w → inBlock w b → (us[j]? = some w ∧ b < n0) ∨ (j = us.length ∧ n0 ≤ b) := fun j w hw hb => by
      by_cases hji : j < us.length
      · rw [List.getElem?_append_left hji] at hw
        exact .inl ⟨hw, hlt _ _ _ hw hb h0⟩
      · rw [List.getElem?_append_right (by omega)] at hw
        have hj0 : j - us.length = 0 := by
          have := (gsI.1 hw).1
          simp at this; omega
        rw [hj0] at hw
        simp at hw
        subst hw
        exact .inr ⟨by omega, hn b h0 hb⟩
    rcases hj j w h1 h3 with ⟨q1, q2⟩ | ⟨q1, q2⟩
    · rcases hj j' w' h2 h4 with ⟨q3, q4⟩ | ⟨q3, q4⟩
      · exact h.dis j j' b w w' q1 q3 h0 h3 h4
      · omega
    · rcases hj j' w' h2 h4 with ⟨q3, q4⟩ | ⟨q3, q4⟩
      · omega
      · omega
theorem OTab.lt (h : OTab k e2 e sz ag R H v t us) (j : Nat) (w : Value) (b : Nat) (hw : us[j]? = some w) (hb : inBlock w b) (h0 : 0 < b) : b < H.length := by
  have hjt : j < t.length := by rw [← h.len]; exact (gsI.1 hw).1
  exact ((h.rows j _ w (gtE hjt) hw).ge hb h0).2
end
def SubAt (sz : Nat) (u : Value) (n j m : Nat) (v : Value) : Prop := (∃ b o cap c, u = .slice (some ⟨b, o, none⟩) n cap ∧ v = .slice (some ⟨b, o + j * sz, none⟩) m c) ∨ (m = 0 ∧ ∃ a c, v = .slice a 0 c)
theorem OwR.sub {α : Type} {k e sz : Nat} {ag : Bool} {R : SHeap → Value → α → Prop} {H : SHeap} {v : Value} {xs : List α} (h : OwR k e sz ag R H v xs) : SubAt sz v xs.length 0 xs.length v := by
  obtain ⟨cs, ⟨h1, h2⟩, h3⟩ := h
  rcases h2 with ⟨h0, h2 | ⟨i, h2⟩⟩ | ⟨c, i, cap, l, all, q1, q2, q3, q4, q5, q6⟩
  · exact .inr ⟨h0, _, _, h2⟩
  · exact .inr ⟨h0, _, _, h2⟩
  · exact .inl ⟨c, i, cap, cap, q1, by simpa using q1⟩
section
variable {P : Program} {r : List XOp} {F : Fr} {H : SHeap} {Q : Fr → SHeap → Prop} {α : Type}
theorem tx_slO {bb : Bool} {d t e sz l h k : Nat} {ag : Bool} {x : Operand} {lo hi : Option Operand} {R : SHeap → Value → α → Prop} {xs : List α} {tk : Tok ((⟨bb, none, some d, .slice t x lo hi none⟩ : XOp) :: r) Q} (hO : OwR k e sz ag R H (fev F x) xs) (hu : P.underlying t = some (.slice e)) (hs : sz? P e = some sz) (h1 : ag = true ∨ sz = 1)
    (hl : loOf (fev F) lo = some l) (hh : hiOf (fev F) xs.length hi = some h) (hlh : l ≤ h) (hhn : h ≤ xs.length) (K : ∀ v', Row e sz ag R H v' ((xs.drop l).take (h - l)) → SubAt sz (fev F x) xs.length l (h - l) v' → XWt P r Q .mk (upd F d v') H) : XWt P ((⟨bb, none, some d, .slice t x lo hi none⟩ : XOp) :: r) Q tk F H := by
  by_cases h0 : h - l = 0
  · refine tx_slR hO.row hu hs h1 hl hh hlh hhn fun v' hv' => K v' hv' (.inr ⟨h0, ?_⟩)
    obtain ⟨a, c, hv⟩ := hv'.len
    rw [h0] at hv
    exact ⟨a, c, by simpa using hv⟩
  · have hO' := hO
    obtain ⟨cs, ⟨h1', h2⟩, h3⟩ := hO'
    rcases h2 with ⟨h00, -⟩ | ⟨b, i, cap, ll, all, q1, q2, q3, q4, q5, q6, q7⟩
    · omega
    · refine tx_slX (b := b) (i := i) (len := xs.length) (cap := cap) (l := l) (h := h) q1 q5 rfl hu hs hl hh hlh (by omega) (by omega) ?_
      refine K _ ?_ (.inl ⟨b, i, cap, cap - l, q1, rfl⟩)
      refine ⟨(cs.drop (l * sz)).take ((h - l) * sz), ⟨_, _, by rw [List.length_take, List.length_drop, Nat.min_eq_left (by omega)], by rw [List.length_take, List.length_drop]; omega, ?_, fun _ => ⟨b, i + l * sz, _, all, rfl, q5, rfl, rfl, ?_, ?_⟩⟩, fun j y hy => ?_⟩
      · have e1 : (h - l) * sz + l * sz = h * sz := by rw [← Nat.add_mul]; congr 1; omega
        have e2 : h * sz ≤ xs.length * sz := Nat.mul_le_mul_right _ hhn
        have e3 : ((xs.drop l).take (h - l)).length = h - l := by simp; omega
        rw [e3]
        simp
        omega
      · have e1 : (cap - l) * sz + l * sz = cap * sz := by rw [← Nat.add_mul]; congr 1; omega
        have e3 : ((xs.drop l).take (h - l)).length = h - l := by simp; omega
        rw [e3]
        have e2 : (h - l) * sz ≤ (cap - l) * sz := Nat.mul_le_mul_right _ (by omega)
        omega
      · have e1 : (h - l) * sz + l * sz = h * sz := by rw [← Nat.add_mul]; congr 1; omega
        have e2 : h * sz ≤ xs.length * sz := Nat.mul_le_mul_right _ hhn
        have e3 : ((xs.drop l).take (h - l)).length = h - l := by simp; omega
        rw [e3, q7, List.drop_take, List.drop_drop, List.take_take, Nat.min_eq_left (by omega)]
      · have hil : j < h - l := by
          have := (gsI.1 hy).1
          simp at this
          omega
        rw [List.getElem?_take_of_lt hil, List.getElem?_drop] at hy
        have := h3 _ _ hy
        have e1 : elV ag sz ((cs.drop (l * sz)).take ((h - l) * sz)) j = elV ag sz cs (l + j) := by
          have hle : (j + 1) * sz ≤ (h - l) * sz := Nat.mul_le_mul_right _ hil
          rw [Nat.succ_mul] at hle
          unfold elV
          cases ag with
          | true =>
            simp only [if_true]
            rw [List.drop_take, List.drop_drop, List.take_take, Nat.min_eq_left (by omega), ← Nat.add_mul]
          | false =>
            have hs1 : sz = 1 := by rcases h1 with h | h; cases h; exact h
            subst hs1
            simp only [Bool.false_eq_true, if_false, Nat.mul_one]
            rw [List.getElem?_take_of_lt hil, List.getElem?_drop]
        rw [e1]
        exact this
theorem tx_cpR {d td ts e sz k j m : Nat} {ag : Bool} {x y : Operand} {u : Value} {R : SHeap → Value → α → Prop} {xs ys : List α} {tk : Tok (cp d td ts x y :: r) Q} (hO : OwR k e sz ag R H u xs) (hd : SubAt sz u xs.length j m (fev F x)) (hjm : j + m ≤ xs.length) (hY : Row e sz ag R H (fev F y) ys)
    (hRw : ∀ u y, R H u y → Whole P e u) (hRk : ∀ H' s' u y, Kept H H' s' e → R H u y → R H' u y) (hu : P.underlying td = some (.slice e)) (hs : sz? P e = some sz) (hag : aggB P e = some ag) (h1 : ag = true ∨ sz = 1) (hsz : 0 < sz)
    (K : ∀ H', OwR k e sz ag R H' u (xs.take j ++ ys.take m ++ xs.drop (j + (ys.take m).length)) → (∀ H0 : SHeap, H0.length ≤ k → Ext H0 H → Ext H0 H') → Kept H H' u e → H'.length = H.length → (∀ c, c < k → H'[c]? = H[c]?) → XWt P r Q .mk (upd F d (.int .i64 ((ys.take m).length : Int))) H') : XWt P (cp d td ts x y :: r) Q tk F H := by
  have hF : ∀ o : Oper, o.op = .call { callee := .builtin .copy, args := #[x, y], argTypes := #[td, ts] } → isF P o = false := fun o ho => by simp [isF, ho]
  have hn : sop P (fev F) H (.call { callee := .builtin .copy, args := #[x, y], argTypes := #[td, ts] }) = none := rfl
  by_cases h0 : (ys.take m).length = 0
  · have hm0 : min ys.length m = 0 := by simpa [Nat.min_comm] using h0
    obtain ⟨ay, cy, hvy⟩ := hY.len
    obtain ⟨ax, cx, hvx⟩ : ∃ a c, fev F x = .slice a m c := by
      rcases hd with ⟨b, o, cap, c, -, h⟩ | ⟨rfl, a, c, h⟩
      · exact ⟨_, _, h⟩
      · exact ⟨_, _, h⟩
    refine tx_mx (v := .int .i64 0) (H1 := H) rfl rfl hn (fun o ho => .copy0 ho hu hs (by rw [hvy]; exact .zeroS) hm0 hvx) hF (.inl rfl) ?_
    have he : ys.take m = [] := List.eq_nil_of_length_eq_zero h0
    have := K H (by rw [he]; simpa using hO) (fun _ _ h => h) (fun b X h _ => h) rfl (fun _ _ => rfl)
    rw [h0] at this
    exact this
  · have hO' := hO
    obtain ⟨cs, ⟨hl, h2⟩, h3⟩ := hO'
    obtain ⟨ds, hY1, hY2⟩ := hY
    have hm0 : 0 < m := by rcases Nat.eq_zero_or_pos m with q | q; · subst q; simp at h0
                           exact q
    obtain ⟨b, o, cap, c, hd1, hd2⟩ : ∃ b o cap c, u = .slice (some ⟨b, o, none⟩) xs.length cap ∧ fev F x = .slice (some ⟨b, o + j * sz, none⟩) m c := by
      rcases hd with h | ⟨q, -⟩
      · exact h
      · omega
    rcases h2 with ⟨h00, -⟩ | ⟨b', o', cap', ll, all, q1, q2, q3, q4, q5, q6, q7⟩
    · omega
    rw [hd1] at q1
    simp at q1
    obtain ⟨⟨rfl, rfl⟩, rfl⟩ := q1
    obtain ⟨n, hnn⟩ : ∃ n, n = (ys.take m).length := ⟨_, rfl⟩
    have hnm : n = min ys.length m := by rw [hnn]; simp [Nat.min_comm]
    have hdl : ds.length = ys.length * sz := by obtain ⟨_, _, _, _, h, _⟩ := hY1; exact h
    have hsrc : Src H sz (fev F y) ys.length n (ds.take (n * sz)) := Sl.src hY1 (by omega)
    have hns : n * sz ≤ ys.length * sz := Nat.mul_le_mul_right _ (by omega)
    have hnl : (ds.take (n * sz)).length = n * sz := by simp; omega
    have hone : ((ds.take (n * sz)).all (·.oneCell')) = true := by
      have := Row.ones (P := P) hY2 hdl hRw hag h1
      rw [List.all_eq_true] at this ⊢
      exact fun u hu => this u (List.mem_of_mem_take hu)
    have e1 : (j + n) * sz = j * sz + n * sz := Nat.add_mul _ _ _
    have e2 : (j + n) * sz ≤ xs.length * sz := Nat.mul_le_mul_right _ (by omega)
    have e3 : xs.length * sz ≤ cap * sz := Nat.mul_le_mul_right _ q3
    have hfit : o + j * sz + (ds.take (n * sz)).length ≤ all.length := by omega
    refine tx_mx (v := .int .i64 n) (H1 := H.set b (.own e ll (spl all (o + j * sz) (ds.take (n * sz))))) rfl rfl hn (fun o ho => .copy ho hu hs hsrc hnm (by omega) q5 hfit hone hd2) hF (.inl rfl) ?_
    have hbl := (gsI.1 q5).1
    have hkept : Kept H (H.set b (.own e ll (spl all (o + j * sz) (ds.take (n * sz))))) u e := fun b' X hX hb' => by
      have : b ≠ b' := fun e' => by
        subst e'
        rw [q5] at hX
        exact hb' ⟨o, _, cap, hd1⟩ (by rw [← Option.some.inj hX]; rfl)
      rw [List.getElem?_set_ne this]; exact hX
    have hlen : (xs.take j ++ ys.take m ++ xs.drop (j + (ys.take m).length)).length = xs.length := by
      simp only [List.length_append, List.length_take, List.length_drop]
      omega
    have hcs2 : (cs.take (j * sz) ++ ds.take (n * sz) ++ cs.drop (j * sz + n * sz)) = spl cs (j * sz) (ds.take (n * sz)) := by
      unfold spl; rw [hnl]
    have := K (H.set b (.own e ll (spl all (o + j * sz) (ds.take (n * sz))))) ⟨spl cs (j * sz) (ds.take (n * sz)), ⟨by rw [spl_length (by omega), hl, hlen], .inr ⟨b, o, cap, ll, _, by rw [hlen]; exact hd1, q2, by rw [hlen]; exact q3, q4, List.getElem?_set_self hbl, by rw [spl_length hfit]; exact q6, ?_⟩⟩, fun i y hy => ?_⟩
      (fun H0 h0 hx => hx.set (by omega) (by simp)) hkept (by simp) (fun c hc => List.getElem?_set_ne (by omega))
    · rw [← hnn] at this; exact this
    · rw [hlen, q7]
      have hfit2 : j * sz + (ds.take (n * sz)).length ≤ ((all.drop o).take (xs.length * sz)).length := by simp; omega
      apply List.ext_getElem?
      intro i
      by_cases hi : i < xs.length * sz
      · rw [List.getElem?_take_of_lt hi, List.getElem?_drop, spl_get hfit, spl_get hfit2, List.getElem?_take_of_lt hi, List.getElem?_drop]
        by_cases hc : j * sz ≤ i ∧ i < j * sz + (ds.take (n * sz)).length
        · rw [if_pos hc, if_pos ⟨by omega, by omega⟩]
          congr 1
          omega
        · rw [if_neg hc, if_neg (by omega)]
      · rw [List.getElem?_eq_none (by rw [spl_length hfit2]; simp; omega), List.getElem?_eq_none (by simp; omega)]
    ·
      have hR2 : ∀ u x, R H u x → R (H.set b (.own e ll (spl all (o + j * sz) (ds.take (n * sz))))) u x := fun u x h => hRk _ _ _ _ hkept h
      rw [← hcs2]
      have ht : (cs.take (j * sz)).length = j * sz := by simp; omega
      by_cases hi1 : i < j
      · rw [List.append_assoc, List.getElem?_append_left (by simp; omega), List.getElem?_take_of_lt hi1] at hy
        rw [List.append_assoc, elV_append_lt ht hi1 h1]
        have : elV ag sz (cs.take (j * sz)) i = elV ag sz cs i := by
          have := elV_append_lt (ag := ag) (i := i) (ds := cs.drop (j * sz)) ht hi1 h1
          rw [List.take_append_drop] at this
          exact this.symm
        rw [this]
        exact hR2 _ _ (h3 _ _ hy)
      · by_cases hi2 : i < j + n
        · rw [List.append_assoc, List.getElem?_append_right (by simp; omega), List.getElem?_append_left (by simp; omega)] at hy
          have hjl : (xs.take j).length = j := by simp; omega
          rw [hjl, List.getElem?_take_of_lt (by omega)] at hy
          rw [List.append_assoc, elV_append_ge ht (by omega) h1, elV_append_lt hnl (by omega) h1]
          have : elV ag sz (ds.take (n * sz)) (i - j) = elV ag sz ds (i - j) := by
            have := elV_append_lt (ag := ag) (i := i - j) (ds := ds.drop (n * sz)) hnl (by omega) h1
            rw [List.take_append_drop] at this
            exact this.symm
          rw [this]
          exact hR2 _ _ (hY2 _ _ hy)
        · rw [List.getElem?_append_right (by simp; omega)] at hy
          have hl2 : (xs.take j ++ ys.take m).length = j + n := by simp; omega
          rw [hl2, ← hnn, List.getElem?_drop, show j + n + (i - (j + n)) = i by omega] at hy
          have hl3 : (cs.take (j * sz) ++ ds.take (n * sz)).length = (j + n) * sz := by rw [List.length_append, ht, hnl, e1]
          rw [elV_append_ge hl3 (by omega) h1]
          have : elV ag sz (cs.drop (j * sz + n * sz)) (i - (j + n)) = elV ag sz cs i := by
            have h4 : (cs.take ((j + n) * sz)).length = (j + n) * sz := by simp; omega
            have := elV_append_ge (ag := ag) (i := i) (ds := cs.drop ((j + n) * sz)) h4 (by omega) h1
            rw [List.take_append_drop, e1] at this
            exact this.symm
          rw [this]
          exact hR2 _ _ (h3 _ _ hy)
end
def OptR {α : Type} (P : Program) (e : Nat) (R : SHeap → Value → α → Prop) (H : SHeap) (u : Value) : Option α → Prop
  | some a => R H u a
  | none => Whole P e u
section
variable {α : Type} {P : Program} {e sz k : Nat} {ag : Bool} {R : SHeap → Value → α → Prop} {H : SHeap} {v : Value} {xs : List α}
instance [Mono R] : Mono (OptR P e R) := ⟨fun {H H1 u o} h hx => by
  cases o with
  | none => exact h
  | some a => exact Mono.ext (R := R) h hx⟩
theorem OptR.wh (hR : ∀ u y, R H u y → Whole P e u) : ∀ u y, OptR P e R H u y → Whole P e u
  | u, none, h => h
  | u, some a, h => hR u a h
theorem OptR.kept {e' : Nat} (hR : ∀ H' s' u y, Kept H H' s' e' → R H u y → R H' u y) : ∀ H' s' u y, Kept H H' s' e' → OptR P e R H u y → OptR P e R H' u y
  | H', s', u, none, _, h => h
  | H', s', u, some a, hk, h => hR H' s' u a hk h
theorem Row.opt (h : Row e sz ag R H v xs) : Row e sz ag (OptR P e R) H v (xs.map some) := by
  obtain ⟨cs, h1, h2⟩ := h
  refine ⟨cs, by simpa using h1, fun i x hi => ?_⟩
  rw [List.getElem?_map, Option.map_eq_some_iff] at hi
  obtain ⟨y, hy, rfl⟩ := hi
  exact h2 i y hy
theorem OwR.unopt (h : OwR k e sz ag (OptR P e R) H v (xs.map some)) : OwR k e sz ag R H v xs := by
  obtain ⟨cs, h1, h2⟩ := h
  refine ⟨cs, by simpa using h1, fun i x hi => ?_⟩
  exact h2 i (some x) (by simp [hi])
theorem rep_step {α : Type} (a : α) {n N : Nat} (h0 : n ≤ N) : (List.replicate n (some a) ++ List.replicate (N - n) (none : Option α)).take n ++ (List.replicate n (some a)).take (N - n) ++ (List.replicate n (some a) ++ List.replicate (N - n) (none : Option α)).drop (n + ((List.replicate n (some a)).take (N - n)).length) = List.replicate (n + min (N - n) n) (some a) ++ List.replicate (N - (n + min (N - n) n)) none := by
  rw [List.take_replicate, List.take_append, List.take_replicate]
  simp only [List.length_replicate, Nat.sub_self, List.take_zero, List.append_nil, Nat.min_self]
  rw [List.replicate_append_replicate]
  congr 1
  rw [List.drop_append, List.drop_eq_nil_of_le (by simp), List.nil_append]
  simp only [List.length_replicate, List.drop_replicate]
  congr 1
  omega
theorem rep_first {α : Type} (a : α) (N : Nat) : (List.replicate N (none : Option α)).take 0 ++ ([some a] : List (Option α)).take N ++ (List.replicate N (none : Option α)).drop (0 + (([some a] : List (Option α)).take N).length) = List.replicate (min N 1) (some a) ++ List.replicate (N - min N 1) none := by
  rcases N with _ | N
  · simp
  · have : min (N + 1) 1 = 1 := by omega
    rw [this]
    simp
theorem rep_done {α : Type} (a : α) {n N : Nat} (h0 : n ≤ N) (h1 : ¬ n < N) : List.replicate n (some a) ++ List.replicate (N - n) (none : Option α) = (List.replicate N a).map some := by
  have : n = N := by omega
  subst this
  simp
end
section
variable {P : Program} {r : List XOp} {F : Fr} {H : SHeap} {Q : Fr → SHeap → Prop} {α : Type}
theorem tx_bs1R {bb : Bool} {d t e sz : Nat} {ag : Bool} {x : Operand} {z : Value} {R : SHeap → Value → α → Prop} {a : α} {tk : Tok ((⟨bb, none, some d, .buildSlice t 1 #[(0, x)]⟩ : XOp) :: r) Q} (ha : ∀ H', Ext H H' → R H' (fev F x) a) (hw : Whole P e (fev F x))
    (ht : P.underlying t = some (.slice e)) (hs : sz? P e = some sz) (hag : aggB P e = some ag) (hz : zero? P e = some z) (hzf : flat z = true) (hzs : z.cells.size = sz) (hsz : 0 < sz) (hsz' : sz ≤ 1000)
    (K : ∀ v H', OwR H.length e sz ag R H' v [a] → Ext H H' → XWt P r Q .mk (upd F d v) H') : XWt P ((⟨bb, none, some d, .buildSlice t 1 #[(0, x)]⟩ : XOp) :: r) Q tk F H := by
  have hml : (made z (1 * sz)).length = sz := by rw [made_len, Nat.one_mul]
  have hsz2 : (fev F x).cells.size = sz := by have := hw.1; rw [hs] at this; exact (Option.some.inj this).symm
  have hv : (fev F x).cells.toList.length = sz := by simp [hsz2]
  have ho : fillP (fun i => some (i * sz, sz)) (made z (1 * sz)) [(0, fev F x)] = some (fev F x).cells.toList := by
    simp only [fillP]
    rw [if_pos ⟨hv, by rw [hml]; omega⟩]
    have := setAll_full (fev F x).cells.toList (made z (1 * sz)) [] (by rw [hml, hv])
    simpa using this
  have hf : Instr.fill (fun i => some (i * sz, sz)) (made z (1 * sz)).toArray ((#[(0, x)] : Array (Nat × Operand)).toList.map fun p => (p.1, fev F p.2)) = some (fev F x).cells := by
    rw [fill_eq]
    simp only [List.map_cons, List.map_nil]
    rw [ho]
    simp
  have hq : ∀ o : Oper, o.op = .buildSlice t 1 #[(0, x)] → MOp P (fev F) H o (.slice (some ⟨H.length, 0, none⟩) 1 1) (H ++ [.own e false (fev F x).cells.toList]) := fun o ho' => .build (out := (fev F x).cells) ho' ht hs hz hzf hzs hsz (by omega) (by omega) hf (by have := hv; simp at this; omega)
  have hx : Ext H (H ++ [.own e false (fev F x).cells.toList]) := (Ext.refl H).snoc _ _ _
  refine tx_mx rfl rfl rfl hq (fun o ho => by simp [isF, ho]) (.inr hx) (K _ _ ⟨(fev F x).cells.toList, ⟨by simp [hsz2], .inr ⟨H.length, 0, 1, false, (fev F x).cells.toList, rfl, by omega, Nat.le_refl _, Nat.le_refl _, by simp, by simp [hsz2], ?_⟩⟩, fun i y hi => ?_⟩ hx)
  · rw [List.drop_zero, List.length_singleton, Nat.one_mul, ← hv, List.take_length]
  · have hi0 : i = 0 := by have := (gsI.1 hi).1; simp at this; exact this
    subst hi0
    simp at hi
    subst hi
    have := elV_append_eq (n := 0) (cs := []) (by simp) hw hs hag
    rw [List.nil_append] at this
    rw [this]
    exact ha _ hx
end
section
variable {P : Program} {r : List XOp} {F : Fr} {H : SHeap} {Q : Fr → SHeap → Prop} {α : Type}
theorem tx_mkS {d t e sz by_ n : Nat} {ag : Bool} {x y : Operand} {kl kc : IntKind} {z : Value} {R : SHeap → Value → α → Prop} {a : α} {tk : Tok (ms d t x y :: r) Q} (hu : P.underlying t = some (.slice e)) (hs : sz? P e = some sz) (hb : bytes? P e = some by_) (hz : zero? P e = some z) (hzf : flat z = true)
    (hag : aggB P e = some ag) (hw : Whole P e z) (hx : fev F x = .int kl (n : Int)) (hy : fev F y = .int kc (n : Int)) (hsz : 0 < sz) (hby : 0 < by_) (hfit : by_ * n ≤ 281474976710656) (hR : ∀ H', R H' z a)
    (K : ∀ aa cc H', OwR H.length e sz ag R H' (.slice aa n cc) (List.replicate n a) → Ext H H' → XWt P r Q .mk (upd F d (.slice aa n cc)) H') : XWt P (ms d t x y :: r) Q tk F H :=
  tx_mk hu hs hb hz hzf hag hw hx hy hsz hby hfit hR fun v H' hO hx' hc => by
    have hl := hO.len
    rw [List.length_replicate] at hl
    obtain ⟨aa, cc, rfl⟩ := hl
    exact K aa cc H' hO hx'
end
end Go.Sx
end
section
set_option maxRecDepth 8000
set_option maxHeartbeats 1000000
namespace Go.Sx
open Go.Proofs
open Go.Proofs.Tryz (prog)
attribute [-simp] tx_ia tx_ln tx_ix
def and64 (a b : Int) : Int := IntKind.u64.wrap ((BitVec.ofInt 64 a &&& BitVec.ofInt 64 b).toNat : Int)
@[simp high] theorem sbin_and64 (P : Program) (t : Nat) (a b : Int) : sbin P .and t (.int .u64 a) (.int .u64 b) = some (.int .u64 (and64 a b)) := sbin_and
theorem and_low {x : Nat} (hx : x < 4294967296) : and64 (x : Int) 4294967295 = (x : Int) := by
  unfold and64
  have h1 : ((BitVec.ofInt 64 (x : Int)) &&& (BitVec.ofInt 64 4294967295)).toNat = x := by
    have e : (4294967295 : Int) = ((4294967295 : Nat) : Int) := rfl
    rw [e, BitVec.ofInt_natCast, BitVec.ofInt_natCast, BitVec.toNat_and, BitVec.toNat_ofNat, BitVec.toNat_ofNat, Nat.mod_eq_of_lt (by omega), Nat.mod_eq_of_lt (by omega)]
    have := Nat.and_two_pow_sub_one_eq_mod x 32
    rw [show (4294967295 : Nat) = 2 ^ 32 - 1 from rfl, this]
    omega
  rw [h1]
  exact wu64 (by omega) (by omega)
theorem shr_low {x : Nat} (hx : x < 4294967296) : Int.fdiv (x : Int) 4294967296 = 0 := by
  rw [Int.fdiv_eq_ediv_of_nonneg _ (by decide)]
  omega
theorem mul64_spec {a b : Nat} {H : SHeap} (ha : a < 65536) (hb : b < 65536) : SW prog 112 [.int .u64 a, .int .u64 b] H (fun u H1 => H1 = H ∧ u = .tuple #[.int .u64 0, .int .u64 (a * b : Nat)]) := by
  refine SW.cps fun Q hQ => ?_
  apply into_bits_Mul64 (by simp)
  obtain ⟨p, hp⟩ : ∃ p, p = a * b := ⟨_, rfl⟩
  have hpl : p < 4294967296 := by
    have := Nat.mul_lt_mul'' ha hb
    omega
  have hpe : (a : Int) * (b : Int) = (p : Int) := by rw [hp]; simp
  have w0 : IntKind.wrap .u64 0 = 0 := by decide
  have wp : IntKind.wrap .u64 (p : Int) = p := wu64 (by omega) (by omega)
  have aa := and_low (show a < 4294967296 by omega)
  have bb := and_low (show b < 4294967296 by omega)
  have zf : Int.fdiv 0 4294967296 = 0 := by decide
  have za : and64 0 4294967295 = 0 := by decide
  simp [Z_bits_Mul64, aa, bb, shr_low (show a < 4294967296 by omega), shr_low (show b < 4294967296 by omega), hpe, wp, w0, shr_low hpl, zf, za, retOf]
  exact hQ _ _ ⟨rfl, by simp [hp]⟩
theorem mulb_spec {a b : Nat} {H : SHeap} (ha : a < 65536) (hb : b < 65536) : SW prog 89 [.int .u64 a, .int .u64 b] H (fun u H1 => H1 = H ∧ u = .tuple #[.int .u64 0, .int .u64 (a * b : Nat)]) := by
  refine SW.cps fun Q hQ => ?_
  apply into_bits_Mul (by simp)
  simp [Z_bits_Mul]
  refine SWt.mk (mul64_spec ha hb) ?_
  rintro u H1 ⟨rfl, rfl⟩
  simp [retOf]
  exact hQ _ _ ⟨rfl, by simp⟩
theorem u64i {n : Nat} (h : n < 65536) : IntKind.u64.wrap (n : Int) = n := wu64 (by omega) (by omega)
theorem i64i {n : Nat} (h : n < 65536) : IntKind.i64.wrap (n : Int) = n := w64 (by omega) (by omega)
theorem repI_spec {α : Type} {R : SHeap → Value → α → Prop} [Mono R] {v : Value} {a : α} {n : Nat} {H : SHeap} (hX : Row 3 1 false R H v [a]) (hn : n < 65536)
    (hRw : ∀ H u y, R H u y → Whole prog 3 u) (hRk : ∀ H H' s' u y, Kept H H' s' 3 → R H u y → R H' u y) :
    SW prog 60 [v, .int .i64 n] H (fun u H1 => Ext H H1 ∧ OwR H.length 3 1 false R H1 u (List.replicate n a)) := by
  refine SW.cps fun Q hQ => ?_
  apply into_slices_Repeat_Sint_int (by simp)
  obtain ⟨av, cv, hv⟩ := hX.len
  subst hv
  have hu1 := u64i hn
  have hi1 := i64i hn
  simp [Z_slices_Repeat_Sint_int]
  refine ZXt.join (by kernel_rfl) (fun F4 G4 H4 => H4 = H) ?_ ?_
  · rintro K hK -
    simp
    refine Brt.mkD (fun h => by omega) (fun _ => ?_)
    exact hK _ _ _ rfl
  rintro F4 G4 H4 rfl
  simp
  refine tx_lnR (R := R) (xs := [a]) (by simpa using hX) (by simp) ?_
  have w1 : IntKind.u64.wrap 1 = ((1 : Nat) : Int) := by decide
  simp [hu1, w1]
  refine SWt.mk (mulb_spec (a := 1) (b := n) (by omega) hn) ?_
  rintro u H1 ⟨rfl, rfl⟩
  simp
  refine ZXt.join (by kernel_rfl) (fun F5 G5 H5 => H5 = H1) ?_ ?_
  · rintro K hK -
    rw [tzx_seq]
    refine ZXt.join (by kernel_rfl) (fun F5 G5 H5 => H5 = H1 ∧ F5 26 = .bool false) ?_ ?_
    · rintro K' hK' -
      simp
      exact hK' _ _ _ ⟨rfl, by simp; omega⟩
    · rintro F5 G5 H5 ⟨rfl, h26⟩
      simp only [mix_ap] at h26
      simp at h26
      simp [h26]
      exact hK _ _ _ rfl
  rintro F5 G5 H5 rfl
  simp [hi1]
  refine tx_mk (e := 3) (sz := 1) (by_ := 8) (ag := false) (n := n) (kl := .i64) (kc := .i64) (z := (.int .i64 0)) (R := OptR prog 3 R) (a := none) (by simp) (by simp) (by simp) (by rfl) (by first | rfl | simp [flat, flat1]) (by simp) ⟨by rfl, by rfl, by simp [isAg]⟩ (by simp) (by simp) (by decide) (by decide) (by omega) (fun H' => ⟨by rfl, by rfl, by simp [isAg]⟩) ?_
  rintro v' H6 hO hx6 -
  simp
  refine tx_cpR (e := 3) (sz := 1) (ag := false) (R := OptR prog 3 R) (xs := List.replicate n none) (ys := [some a]) (u := v') (j := 0) (m := n) (k := H5.length) hO (by simpa using hO.sub) (by simp) (by simpa using Mono.ext hX.opt hx6) (OptR.wh fun u y => hRw _ u y) (OptR.kept (hRk _)) (by simp) (by simp) (by simp) (by decide) (by decide) ?_
  rintro H7 hO7 hx7 - - -
  rw [rep_first] at hO7
  simp
  refine LoopZt.mk (by kernel_rfl) (fun m F1 G1 H1 => ∃ q : Nat, m = n - q ∧ (0 < q ∨ n = 0) ∧ q ≤ n ∧ F1 8 = .int .i64 (q : Int) ∧ F1 7 = v' ∧ OwR H5.length 3 1 false (OptR prog 3 R) H1 v' (List.replicate q (some a) ++ List.replicate (n - q) none) ∧ Ext H5 H1) (n - min n 1) ⟨min n 1, rfl, by omega, by omega, by simp, by simp, hO7, hx7 _ (Nat.le_refl _) hx6⟩ ?_
  rintro m F8 G8 H8 ⟨q, rfl, hq0, hqn, h8, h7, hO8, hx8⟩ K hK
  simp at h8 h7
  simp [h8, h7]
  refine tx_lnR (R := OptR prog 3 R) (xs := List.replicate q (some a) ++ List.replicate (n - q) none) (by simpa [h7] using hO8.row) (by simp) ?_
  simp
  obtain ⟨xs, hxs⟩ : ∃ xs, xs = List.replicate q (some a) ++ List.replicate (n - q) (none : Option α) := ⟨_, rfl⟩
  have hxl : xs.length = n := by rw [hxs]; simp; omega
  rw [← hxs] at hO8
  refine Brt.mkD (fun hlt => ?_) (fun hge => ?_)
  · simp
    refine tx_slO (e := 3) (sz := 1) (ag := false) (R := OptR prog 3 R) (xs := xs) (l := q) (h := n) (k := H5.length) (by simpa [h7] using hO8) (by simp) (by simp) (by decide) (by simp [loOf, h8]) (by simp [hiOf, hxl]) (by omega) (by omega) ?_
    intro x1 hx1 hsub
    simp at hsub
    simp
    refine tx_slR (e := 3) (sz := 1) (ag := false) (R := OptR prog 3 R) (xs := xs) (l := 0) (h := q) (by simpa [h7] using hO8.row) (by simp) (by simp) (by decide) (by simp [loOf, h8]) (by simp [hiOf, h8]) (by omega) (by omega) ?_
    intro x2 hx2
    have e2 : (xs.drop 0).take (q - 0) = List.replicate q (some a) := by rw [hxs]; simp
    rw [e2] at hx2
    refine tx_cpR (e := 3) (sz := 1) (ag := false) (R := OptR prog 3 R) (xs := xs) (ys := List.replicate q (some a)) (u := v') (j := q) (m := n - q) (k := H5.length) hO8 (by simpa using hsub) (by omega) (by simpa using hx2) (OptR.wh fun u y => hRw _ u y) (OptR.kept (hRk _)) (by simp) (by simp) (by simp) (by decide) (by decide) ?_
    rintro H9 hO9 hx9 - - -
    rw [hxs, rep_step a hqn] at hO9
    have hi2 := i64i (n := q + min (n - q) q) (by omega)
    simp at hi2
    simp [h8, hi2]
    refine hK (n - (q + min (n - q) q)) _ _ _ (by omega) ⟨q + min (n - q) q, rfl, by omega, by omega, by simp, by simp [h7], hO9, hx9 _ (Nat.le_refl _) hx8⟩
  · have hqe : q = n := by omega
    rw [hxs, rep_done a hqn (by omega)] at hO8
    simp [retOf, h7]
    exact hQ _ _ ⟨hx8, hO8.unopt⟩
theorem repS_spec {α : Type} {R : SHeap → Value → α → Prop} [Mono R] {v : Value} {a : α} {n : Nat} {H : SHeap} (hX : Row 34 1 false R H v [a]) (hn : n < 65536)
    (hRw : ∀ H u y, R H u y → Whole prog 34 u) (hRk : ∀ H H' s' u y, Kept H H' s' 34 → R H u y → R H' u y) :
    SW prog 73 [v, .int .i64 n] H (fun u H1 => Ext H H1 ∧ OwR H.length 34 1 false R H1 u (List.replicate n a)) := by
  refine SW.cps fun Q hQ => ?_
  apply into_slices_Repeat_SSint_Sint (by simp)
  obtain ⟨av, cv, hv⟩ := hX.len
  subst hv
  have hu1 := u64i hn
  have hi1 := i64i hn
  simp [Z_slices_Repeat_SSint_Sint]
  refine ZXt.join (by kernel_rfl) (fun F4 G4 H4 => H4 = H) ?_ ?_
  · rintro K hK -
    simp
    refine Brt.mkD (fun h => by omega) (fun _ => ?_)
    exact hK _ _ _ rfl
  rintro F4 G4 H4 rfl
  simp
  refine tx_lnR (R := R) (xs := [a]) (by simpa using hX) (by simp) ?_
  have w1 : IntKind.u64.wrap 1 = ((1 : Nat) : Int) := by decide
  simp [hu1, w1]
  refine SWt.mk (mulb_spec (a := 1) (b := n) (by omega) hn) ?_
  rintro u H1 ⟨rfl, rfl⟩
  simp
  refine ZXt.join (by kernel_rfl) (fun F5 G5 H5 => H5 = H1) ?_ ?_
  · rintro K hK -
    rw [tzx_seq]
    refine ZXt.join (by kernel_rfl) (fun F5 G5 H5 => H5 = H1 ∧ F5 26 = .bool false) ?_ ?_
    · rintro K' hK' -
      simp
      exact hK' _ _ _ ⟨rfl, by simp; omega⟩
    · rintro F5 G5 H5 ⟨rfl, h26⟩
      simp only [mix_ap] at h26
      simp at h26
      simp [h26]
      exact hK _ _ _ rfl
  rintro F5 G5 H5 rfl
  simp [hi1]
  refine tx_mk (e := 34) (sz := 1) (by_ := 24) (ag := false) (n := n) (kl := .i64) (kc := .i64) (z := (.slice none 0 0)) (R := OptR prog 34 R) (a := none) (by simp) (by simp) (by simp) (by rfl) (by first | rfl | simp [flat, flat1]) (by simp) ⟨by rfl, by rfl, by simp [isAg]⟩ (by simp) (by simp) (by decide) (by decide) (by omega) (fun H' => ⟨by rfl, by rfl, by simp [isAg]⟩) ?_
  rintro v' H6 hO hx6 -
  simp
  refine tx_cpR (e := 34) (sz := 1) (ag := false) (R := OptR prog 34 R) (xs := List.replicate n none) (ys := [some a]) (u := v') (j := 0) (m := n) (k := H5.length) hO (by simpa using hO.sub) (by simp) (by simpa using Mono.ext hX.opt hx6) (OptR.wh fun u y => hRw _ u y) (OptR.kept (hRk _)) (by simp) (by simp) (by simp) (by decide) (by decide) ?_
  rintro H7 hO7 hx7 - - -
  rw [rep_first] at hO7
  simp
  refine LoopZt.mk (by kernel_rfl) (fun m F1 G1 H1 => ∃ q : Nat, m = n - q ∧ (0 < q ∨ n = 0) ∧ q ≤ n ∧ F1 8 = .int .i64 (q : Int) ∧ F1 7 = v' ∧ OwR H5.length 34 1 false (OptR prog 34 R) H1 v' (List.replicate q (some a) ++ List.replicate (n - q) none) ∧ Ext H5 H1) (n - min n 1) ⟨min n 1, rfl, by omega, by omega, by simp, by simp, hO7, hx7 _ (Nat.le_refl _) hx6⟩ ?_
  rintro m F8 G8 H8 ⟨q, rfl, hq0, hqn, h8, h7, hO8, hx8⟩ K hK
  simp at h8 h7
  simp [h8, h7]
  refine tx_lnR (R := OptR prog 34 R) (xs := List.replicate q (some a) ++ List.replicate (n - q) none) (by simpa [h7] using hO8.row) (by simp) ?_
  simp
  obtain ⟨xs, hxs⟩ : ∃ xs, xs = List.replicate q (some a) ++ List.replicate (n - q) (none : Option α) := ⟨_, rfl⟩
  have hxl : xs.length = n := by rw [hxs]; simp; omega
  rw [← hxs] at hO8
  refine Brt.mkD (fun hlt => ?_) (fun hge => ?_)
  · simp
    refine tx_slO (e := 34) (sz := 1) (ag := false) (R := OptR prog 34 R) (xs := xs) (l := q) (h := n) (k := H5.length) (by simpa [h7] using hO8) (by simp) (by simp) (by decide) (by simp [loOf, h8]) (by simp [hiOf, hxl]) (by omega) (by omega) ?_
    intro x1 hx1 hsub
    simp at hsub
    simp
    refine tx_slR (e := 34) (sz := 1) (ag := false) (R := OptR prog 34 R) (xs := xs) (l := 0) (h := q) (by simpa [h7] using hO8.row) (by simp) (by simp) (by decide) (by simp [loOf, h8]) (by simp [hiOf, h8]) (by omega) (by omega) ?_
    intro x2 hx2
    have e2 : (xs.drop 0).take (q - 0) = List.replicate q (some a) := by rw [hxs]; simp
    rw [e2] at hx2
    refine tx_cpR (e := 34) (sz := 1) (ag := false) (R := OptR prog 34 R) (xs := xs) (ys := List.replicate q (some a)) (u := v') (j := q) (m := n - q) (k := H5.length) hO8 (by simpa using hsub) (by omega) (by simpa using hx2) (OptR.wh fun u y => hRw _ u y) (OptR.kept (hRk _)) (by simp) (by simp) (by simp) (by decide) (by decide) ?_
    rintro H9 hO9 hx9 - - -
    rw [hxs, rep_step a hqn] at hO9
    have hi2 := i64i (n := q + min (n - q) q) (by omega)
    simp at hi2
    simp [h8, hi2]
    refine hK (n - (q + min (n - q) q)) _ _ _ (by omega) ⟨q + min (n - q) q, rfl, by omega, by omega, by simp, by simp [h7], hO9, hx9 _ (Nat.le_refl _) hx8⟩
  · have hqe : q = n := by omega
    rw [hxs, rep_done a hqn (by omega)] at hO8
    simp [retOf, h7]
    exact hQ _ _ ⟨hx8, hO8.unopt⟩
theorem repQ_spec {α : Type} {R : SHeap → Value → α → Prop} [Mono R] {v : Value} {a : α} {n : Nat} {H : SHeap} (hX : Row 80 4 true R H v [a]) (hn : n < 65536)
    (hRw : ∀ H u y, R H u y → Whole prog 80 u) (hRk : ∀ H H' s' u y, Kept H H' s' 80 → R H u y → R H' u y) :
    SW prog 96 [v, .int .i64 n] H (fun u H1 => Ext H H1 ∧ OwR H.length 80 4 true R H1 u (List.replicate n a)) := by
  refine SW.cps fun Q hQ => ?_
  apply into_slices_Repeat_Snum_Rat_num_Rat (by simp)
  obtain ⟨av, cv, hv⟩ := hX.len
  subst hv
  have hu1 := u64i hn
  have hi1 := i64i hn
  simp [Z_slices_Repeat_Snum_Rat_num_Rat]
  refine ZXt.join (by kernel_rfl) (fun F4 G4 H4 => H4 = H) ?_ ?_
  · rintro K hK -
    simp
    refine Brt.mkD (fun h => by omega) (fun _ => ?_)
    exact hK _ _ _ rfl
  rintro F4 G4 H4 rfl
  simp
  refine tx_lnR (R := R) (xs := [a]) (by simpa using hX) (by simp) ?_
  have w1 : IntKind.u64.wrap 1 = ((1 : Nat) : Int) := by decide
  simp [hu1, w1]
  refine SWt.mk (mulb_spec (a := 1) (b := n) (by omega) hn) ?_
  rintro u H1 ⟨rfl, rfl⟩
  simp
  refine ZXt.join (by kernel_rfl) (fun F5 G5 H5 => H5 = H1) ?_ ?_
  · rintro K hK -
    rw [tzx_seq]
    refine ZXt.join (by kernel_rfl) (fun F5 G5 H5 => H5 = H1 ∧ F5 26 = .bool false) ?_ ?_
    · rintro K' hK' -
      simp
      exact hK' _ _ _ ⟨rfl, by simp; omega⟩
    · rintro F5 G5 H5 ⟨rfl, h26⟩
      simp only [mix_ap] at h26
      simp at h26
      simp [h26]
      exact hK _ _ _ rfl
  rintro F5 G5 H5 rfl
  simp [hi1]
  refine tx_mk (e := 80) (sz := 4) (by_ := 64) (ag := true) (n := n) (kl := .i64) (kc := .i64) (z := (.agg #[.bool false, .slice none 0 0, .bool false, .slice none 0 0])) (R := OptR prog 80 R) (a := none) (by simp) (by simp) (by simp) (by rfl) (by first | rfl | simp [flat, flat1]) (by simp) ⟨by rfl, by rfl, by simp [isAg]⟩ (by simp) (by simp) (by decide) (by decide) (by omega) (fun H' => ⟨by rfl, by rfl, by simp [isAg]⟩) ?_
  rintro v' H6 hO hx6 -
  simp
  refine tx_cpR (e := 80) (sz := 4) (ag := true) (R := OptR prog 80 R) (xs := List.replicate n none) (ys := [some a]) (u := v') (j := 0) (m := n) (k := H5.length) hO (by simpa using hO.sub) (by simp) (by simpa using Mono.ext hX.opt hx6) (OptR.wh fun u y => hRw _ u y) (OptR.kept (hRk _)) (by simp) (by simp) (by simp) (by decide) (by decide) ?_
  rintro H7 hO7 hx7 - - -
  rw [rep_first] at hO7
  simp
  refine LoopZt.mk (by kernel_rfl) (fun m F1 G1 H1 => ∃ q : Nat, m = n - q ∧ (0 < q ∨ n = 0) ∧ q ≤ n ∧ F1 8 = .int .i64 (q : Int) ∧ F1 7 = v' ∧ OwR H5.length 80 4 true (OptR prog 80 R) H1 v' (List.replicate q (some a) ++ List.replicate (n - q) none) ∧ Ext H5 H1) (n - min n 1) ⟨min n 1, rfl, by omega, by omega, by simp, by simp, hO7, hx7 _ (Nat.le_refl _) hx6⟩ ?_
  rintro m F8 G8 H8 ⟨q, rfl, hq0, hqn, h8, h7, hO8, hx8⟩ K hK
  simp at h8 h7
  simp [h8, h7]
  refine tx_lnR (R := OptR prog 80 R) (xs := List.replicate q (some a) ++ List.replicate (n - q) none) (by simpa [h7] using hO8.row) (by simp) ?_
  simp
  obtain ⟨xs, hxs⟩ : ∃ xs, xs = List.replicate q (some a) ++ List.replicate (n - q) (none : Option α) := ⟨_, rfl⟩
  have hxl : xs.length = n := by rw [hxs]; simp; omega
  rw [← hxs] at hO8
  refine Brt.mkD (fun hlt => ?_) (fun hge => ?_)
  · simp
    refine tx_slO (e := 80) (sz := 4) (ag := true) (R := OptR prog 80 R) (xs := xs) (l := q) (h := n) (k := H5.length) (by simpa [h7] using hO8) (by simp) (by simp) (by decide) (by simp [loOf, h8]) (by simp [hiOf, hxl]) (by omega) (by omega) ?_
    intro x1 hx1 hsub
    simp at hsub
    simp
    refine tx_slR (e := 80) (sz := 4) (ag := true) (R := OptR prog 80 R) (xs := xs) (l := 0) (h := q) (by simpa [h7] using hO8.row) (by simp) (by simp) (by decide) (by simp [loOf, h8]) (by simp [hiOf, h8]) (by omega) (by omega) ?_
    intro x2 hx2
    have e2 : (xs.drop 0).take (q - 0) = List.replicate q (some a) := by rw [hxs]; simp
    rw [e2] at hx2
    refine tx_cpR (e := 80) (sz := 4) (ag := true) (R := OptR prog 80 R) (xs := xs) (ys := List.replicate q (some a)) (u := v') (j := q) (m := n - q) (k := H5.length) hO8 (by simpa using hsub) (by omega) (by simpa using hx2) (OptR.wh fun u y => hRw _ u y) (OptR.kept (hRk _)) (by simp) (by simp) (by simp) (by decide) (by decide) ?_
    rintro H9 hO9 hx9 - - -
    rw [hxs, rep_step a hqn] at hO9
    have hi2 := i64i (n := q + min (n - q) q) (by omega)
    simp at hi2
    simp [h8, hi2]
    refine hK (n - (q + min (n - q) q)) _ _ _ (by omega) ⟨q + min (n - q) q, rfl, by omega, by omega, by simp, by simp [h7], hO9, hx9 _ (Nat.le_refl _) hx8⟩
  · have hqe : q = n := by omega
    rw [hxs, rep_done a hqn (by omega)] at hO8
    simp [retOf, h7]
    exact hQ _ _ ⟨hx8, hO8.unopt⟩
def IR (H : SHeap) (v : Value) (z : Int) : Prop := v = .int .i64 z
def BR (H : SHeap) (v : Value) (b : Bool) : Prop := v = .bool b
instance : Mono IR := ⟨fun h _ => h⟩
instance : Mono BR := ⟨fun h _ => h⟩
theorem wh_int (n : Int) : Whole prog 3 (.int .i64 n) := ⟨by rfl, by rfl, by simp [isAg]⟩
theorem wh_bool (b : Bool) : Whole prog 4 (.bool b) := ⟨by rfl, by rfl, by simp [isAg]⟩
theorem jobsQ_spec {v : Value} {t : List (List Rat)} {H : SHeap} (hT : QTab H v t) : SW prog 48 [.agg #[v]] H (fun w H1 => Ext H H1 ∧ w = .int .i64 t.length) := by
  refine SW.cps fun Q hQ => ?_
  apply into_shop_table_jobs (by simp)
  obtain ⟨a, cap, rfl⟩ := Row.len hT
  simp [X_shop_table_jobs, retOf]
  refine tx_lnR (R := QRow) (xs := t) (by simpa using Mono.ext hT (Ext.more H (by simp))) (by simp) ?_
  simp [retOf]
  exact hQ _ _ ⟨Ext.more H (by simp), rfl⟩
theorem machinesQ_spec {v : Value} {t : List (List Rat)} {r0 : List Rat} {H : SHeap} (hT : QTab H v t) (h0 : t[0]? = some r0) : SW prog 49 [.agg #[v]] H (fun w H1 => Ext H H1 ∧ w = .int .i64 r0.length) := by
  refine SW.cps fun Q hQ => ?_
  apply into_shop_table_machines (by simp)
  obtain ⟨a, cap, rfl⟩ := Row.len hT
  simp [X_shop_table_machines]
  refine tx_elem (R := QRow) (xs := t) (n := 0) (a := r0) (e := 120) (sz := 1) (ag := false) (by simpa using Mono.ext hT (Ext.more H (by simp))) (by simp) h0 (by simp) (by simp) (by simp) (by decide) ?_
  intro p0 ur hur
  refine tx_lnR (R := RatQ) (xs := r0) (by simpa using hur) (by simp) ?_
  simp [retOf]
  exact hQ _ _ ⟨Ext.more H (by simp), rfl⟩
def colOf (t : List (List Rat)) (k : Nat) : List Rat := t.map fun r => r[k]?.getD 0
def turn (m : Nat) (t : List (List Rat)) : List (List Rat) := (List.range m).map (colOf t)
def turnTo (m : Nat) (t : List (List Rat)) (i j : Nat) : List (List Rat) := (List.range m).map fun a => if a < i then colOf t a else if a = i then colOf (t.take j) a else []
theorem turnTo_zero (m : Nat) (t : List (List Rat)) : turnTo m t 0 0 = List.replicate m [] := by
  unfold turnTo
  apply List.ext_getElem?
  intro a
  simp [List.getElem?_replicate, List.getElem?_range]
  by_cases h : a < m
  · simp [h, colOf]
  · simp [h]
theorem turnTo_get {m : Nat} {t : List (List Rat)} {i j : Nat} (hi : i < m) : (turnTo m t i j)[i]? = some (colOf (t.take j) i) := by
  simp [turnTo, List.getElem?_range, hi]
theorem turnTo_set {m : Nat} {t : List (List Rat)} {i j : Nat} {row : List Rat} (hi : i < m) (hr : t[j]? = some row) : (turnTo m t i j).set i (colOf (t.take j) i ++ [row[i]?.getD 0]) = turnTo m t i (j + 1) := by
  apply List.ext_getElem?
  intro a
  rw [List.getElem?_set]
  have hj := (gsI.1 hr)
  by_cases h : i = a
  · subst h
    simp only [turnTo, List.length_map, List.length_range, hi, if_true, List.getElem?_map, List.getElem?_range hi]
    simp [colOf, List.take_add_one, hr]
  · rw [if_neg h]
    simp only [turnTo, List.getElem?_map]
    by_cases ha : a < m
    · simp [List.getElem?_range ha, show ¬ a = i by omega]
    · simp [ha]
theorem turnTo_next (m : Nat) (t : List (List Rat)) (i : Nat) : turnTo m t i t.length = turnTo m t (i + 1) 0 := by
  unfold turnTo
  apply List.map_congr_left
  intro a _
  by_cases h1 : a < i
  · simp [h1, show a < i + 1 by omega]
  · by_cases h2 : a = i
    · subst h2; simp
    · simp [h1, h2, show ¬ a < i + 1 by omega, colOf]
theorem turnTo_end (m : Nat) (t : List (List Rat)) : turnTo m t m 0 = turn m t := by
  unfold turnTo turn
  apply List.map_congr_left
  intro a ha
  simp at ha
  simp [ha]
theorem turnTo_len (m : Nat) (t : List (List Rat)) (i j : Nat) : (turnTo m t i j).length = m := by simp [turnTo]
theorem wh_sl (a : Option Addr) (n c : Nat) : Whole prog 120 (.slice a n c) := ⟨by rfl, by rfl, by simp [isAg]⟩
theorem OwR.wh {α : Type} {k e sz : Nat} {ag : Bool} {R : SHeap → Value → α → Prop} {H : SHeap} {v : Value} {xs : List α} (h : OwR k e sz ag R H v xs) : Whole prog 120 v := by
  obtain ⟨a, c, rfl⟩ := h.len
  exact wh_sl _ _ _
theorem turned_spec {v : Value} {t : List (List Rat)} {m : Nat} {H : SHeap} (hT : QTab H v t) (ht : 0 < t.length) (hl : t.length < 65536) (hm : ∀ r ∈ t, r.length = m) (hm2 : m < 65536) :
    SW prog 34 [.agg #[v]] H (fun u H1 => Ext H H1 ∧ ∃ w, u = .agg #[w] ∧ QTab H1 w (turn m t)) := by
  refine SW.cps fun Q hQ => ?_
  apply into_shop_table_turned (by simp)
  obtain ⟨a, c, rfl⟩ := Row.len hT
  obtain ⟨r0, hr0⟩ : ∃ r0, t[0]? = some r0 := ⟨_, gtE ht⟩
  have hr0m := hm r0 (List.mem_of_getElem? hr0)
  simp [Z_shop_table_turned]
  have hx0 : Ext H (H ++ [.dead, .dead]) := Ext.more H (by simp)
  refine SWt.mk (machinesQ_spec (hT.ext hx0) hr0) ?_
  rintro u H1 ⟨hx1, rfl⟩
  rw [hr0m]
  have hT1 := hT.ext (hx0.tr hx1)
  have hlen1 : 0 < H1.length := by have := Ext.len (hx0.tr hx1); have := Ext.len hx1; simp at this; omega
  refine tx_mk (e := 120) (sz := 1) (by_ := 24) (ag := false) (n := m) (kl := .i64) (kc := .i64) (z := .slice none 0 0) (R := EqR) (a := .slice none 0 0) (by simp) (by simp) (by simp) (by rfl) (by rfl) (by simp) (wh_sl _ _ _) (by simp) (by simp) (by decide) (by decide) (by omega) (fun H' => rfl) ?_
  rintro w H2 hO2 hx2 -
  have hTab2 := OTab.mk0 (e := 80) (sz := 4) (ag := true) (R := RatQ) hlen1 hO2
  simp
  refine tx_lnR (R := EqR) (xs := List.replicate m (.slice none 0 0)) (by simpa using hO2.row) (by simp) ?_
  simp
  refine LoopZt.range (by kernel_rfl) m (by omega) (by simp) (by rfl) (by simp) (by decide) (by decide) (fun i F3 G3 H3 => Ext H1 H3 ∧ ∃ us, OTab H1.length 120 80 4 true RatQ H3 w (turnTo m t i 0) us) ?_ ?_ ?_
  · exact ⟨hx2, _, by rw [turnTo_zero]; exact hTab2⟩
  · rintro i F3 G3 H3 hi hF ⟨hx3, us, hTab⟩ K hK
    simp at hF
    simp [hF]
    refine tx_lnR (R := QRow) (xs := t) (by simpa using Mono.ext hT1 hx3) (by simp) ?_
    simp
    refine LoopZt.range (by kernel_rfl) t.length (by omega) (by simp) (by rfl) (by simp) (by decide) (by decide) (fun j F4 G4 H4 => Ext H1 H4 ∧ ∃ us, OTab H1.length 120 80 4 true RatQ H4 w (turnTo m t i j) us) ?_ ?_ ?_
    · exact ⟨hx3, us, hTab⟩
    · rintro j F4 G4 H4 hj hF4 ⟨hx4, us4, hTab4⟩ K4 hK4
      simp at hF4
      simp [hF4]
      obtain ⟨row, hrow⟩ : ∃ row, t[j]? = some row := ⟨_, gtE hj⟩
      have hrm := hm row (List.mem_of_getElem? hrow)
      obtain ⟨q, hq⟩ : ∃ q, row[i]? = some q := ⟨_, gtE (by omega)⟩
      refine tx_elem (R := QRow) (xs := t) (n := j) (a := row) (e := 120) (sz := 1) (ag := false) (by simpa using Mono.ext hT1 hx4) (by simp [hF4]) hrow (by simp) (by simp) (by simp) (by decide) ?_
      intro p4 ur hur
      simp
      obtain ⟨u, hu, hOu⟩ := hTab4.row_at (turnTo_get hi)
      refine tx_elem (R := EqR) (xs := us4) (n := i) (a := u) (e := 120) (sz := 1) (ag := false) (by simpa using hTab4.own.row) (by simp) hu (by simp) (by simp) (by simp) (by decide) ?_
      rintro p5 u5 rfl
      simp
      refine tx_elem (R := RatQ) (xs := row) (n := i) (a := q) (e := 80) (sz := 4) (ag := true) (by simpa using hur) (by simp) hq (by simp) (by simp) (by simp) (by decide) ?_
      intro p6 x hx
      refine tx_pushB (k := H1.length) (e := 80) (sz := 4) (ag := true) (by_ := 64) (z := .agg #[.bool false, .slice none 0 0, .bool false, .slice none 0 0]) (R := RatQ) (xs := colOf (t.take j) i) (a := q) (by simpa using hOu) (by simpa using hx) (by simpa using hx.whole) (by simp) (fun H' s' u y hk h => h.kept hk (by decide)) (by simp) (by simp) (by simp) (by simp) (by simp) (by rfl) (by rfl) (by first | rfl | simp [flat, flat1]) (by rfl) (by decide) (by decide) (by decide) (by simp [colOf]; omega) (by have := Ext.len hx4; omega) ?_
      intro p7 v7 H7 hO7 hx7 hk7 hg7 hl7
      simp at hk7 hg7
      refine tx_put (k := H1.length) (e := 120) (sz := 1) (ag := false) (n := i) (R := EqR) (xs := us4) (a := v7) (by simpa using hTab4.own.other hk7 (by decide) fun _ _ h => h) (by simp) (by have := hTab4.len; rw [turnTo_len] at this; omega) (by simp [EqR]) (by simpa using hO7.wh) (by simp) (fun _ _ _ _ _ h => h) (by simp) (by simp) (by simp) (by decide) ?_
      rintro p8 H8 hO8 hx8 hk8 hl8 -
      simp at hO8 hk8
      simp
      refine hK4 _ _ _ (by simp [hF4]) ⟨hx8 _ (Nat.le_refl _) (hx7 _ (Nat.le_refl _) hx4), us4.set i v7, ?_⟩
      have := hTab4.put hu (by decide) hk7 hg7 hO7 (fun u x h => h.kept hk7 (by decide)) hO8 hk8 (fun u x h => h.kept hk8 (by decide))
      rw [show colOf (t.take j) i ++ [q] = colOf (t.take j) i ++ [row[i]?.getD 0] by rw [hq]; rfl, turnTo_set hi hrow] at this
      exact this
    · rintro F4 G4 H4 hF4 ⟨hx4, us4, hTab4⟩
      simp at hF4
      simp [hF4]
      refine hK _ _ _ (by simp [hF]) ⟨hx4, us4, ?_⟩
      rw [← turnTo_next]
      exact hTab4
  · rintro F3 G3 H3 hF ⟨hx3, us, hTab⟩
    have hrow := hTab.row
    rw [turnTo_end] at hrow
    obtain ⟨aw, cw, rfl⟩ := hTab.own.len
    simp [retOf]
    exact hQ _ _ ⟨hx0.tr (hx1.tr hx3), _, rfl, hrow⟩
abbrev IRow (H : SHeap) (v : Value) (l : List Int) : Prop := Row 3 1 false IR H v l
abbrev ITab (H : SHeap) (v : Value) (t : List (List Int)) : Prop := Row 34 1 false IRow H v t
instance : Mono IRow := ⟨fun h hx => Mono.ext (R := Row 3 1 false IR) h hx⟩
instance : Mono ITab := ⟨fun h hx => Mono.ext (R := Row 34 1 false IRow) h hx⟩
theorem Is.row {H : SHeap} {v : Value} {l : List Int} (h : Is H v l) : IRow H v l := ⟨_, h, fun i x hi => by
  show elV false 1 _ i = .int .i64 x
  unfold elV
  simp [hi]⟩
theorem Row.is {H : SHeap} {v : Value} {l : List Int} (h : IRow H v l) : Is H v l := by
  obtain ⟨cs, h1, h2⟩ := h
  have hl : cs.length = l.length := by obtain ⟨_, _, _, _, q, _⟩ := h1; omega
  have : cs = l.map (Value.int .i64) := by
    apply List.ext_getElem?
    intro i
    rw [List.getElem?_map]
    by_cases hi : i < l.length
    · have := h2 i _ (gtE hi)
      rw [gtE hi, gtE (by omega)]
      unfold IR elV at this
      simp [gtE (show i < cs.length by omega)] at this
      simp [this]
    · rw [List.getElem?_eq_none (by omega), List.getElem?_eq_none (by omega)]
      rfl
  unfold Is
  rw [← this]
  exact h1
theorem Row.iss {H : SHeap} {v : Value} {t : List (List Int)} (h : ITab H v t) : Iss H v t := by
  obtain ⟨cs, h1, h2⟩ := h
  have hl : cs.length = t.length := by obtain ⟨_, _, _, _, q, _⟩ := h1; omega
  refine ⟨cs, h1, hl, fun i hi => ?_⟩
  have := h2 i _ (gtE hi)
  rw [gtE hi]
  unfold elV at this
  simp only [Bool.false_eq_true, if_false] at this
  exact this.is
theorem Iss.row {H : SHeap} {v : Value} {t : List (List Int)} (h : Iss H v t) : ITab H v t := by
  obtain ⟨vs, h1, h2, h3⟩ := h
  refine ⟨vs, h1, fun i r hi => ?_⟩
  have hil := (gsI.1 hi).1
  have := h3 i hil
  rw [hi] at this
  unfold elV
  simp only [Bool.false_eq_true, if_false]
  exact this.row
def qt (t : List (List Int)) : List (List Rat) := t.map fun r => r.map fun x => ((x : Int) : Rat)
theorem readO_spec {v : Value} {t : List (List Int)} {H : SHeap} (hT : ITab H v t) (hl : t.length < 65536) (hr : ∀ r ∈ t, r.length < 65536) (hb : ∀ r ∈ t, ∀ x ∈ r, -9223372036854775808 ≤ x ∧ x < 9223372036854775808) :
    SW prog 32 [v] H (fun w H1 => Ext H H1 ∧ ∃ a c us, w = .agg #[.slice a t.length c] ∧ OTab (H.length + 1) 120 80 4 true RatQ H1 (.slice a t.length c) (qt t) us) := by
  refine SW.cps fun Q hQ => ?_
  apply into_shop_read (by simp)
  obtain ⟨a, cap, rfl⟩ := Row.len hT
  simp [Z_shop_read]
  have hx0 : Ext H (H ++ [.dead]) := Ext.dead H
  refine tx_lnR (R := IRow) (xs := t) (by simpa using Mono.ext (R := ITab) hT hx0) (by simp) ?_
  simp
  refine LoopZt.range (by kernel_rfl) t.length (by omega) (by simp) (by rfl) (by simp) (by decide) (by decide) (fun i F2 G2 H2 => Ext (H ++ [.dead]) H2 ∧ ∃ us, OTab (H.length + 1) 120 80 4 true RatQ H2 (F2 3) (qt (t.take i)) us) ?_ ?_ ?_
  · exact ⟨Ext.refl _, [], by simpa [qt] using OTab.nil _ _ _ _ _ _ _ (by omega)⟩
  · rintro i F2 G2 H2 hi hF2 ⟨hx2, us, hTab⟩ K hK
    simp at hF2 hTab
    refine Exists.elim (⟨_, gtE hi⟩ : ∃ row, t[i]? = some row) fun row hrow => ?_
    have hmem := List.mem_of_getElem? hrow
    have hrl := hr row hmem
    have hl2 := Ext.len hx2
    simp at hl2
    simp [hF2]
    refine tx_elem (R := IRow) (xs := t) (n := i) (a := row) (e := 34) (sz := 1) (ag := false) (by simpa using Mono.ext (R := ITab) hT (hx0.tr hx2)) (by simp [hF2]) hrow (by simp) (by simp) (by simp) (by decide) ?_
    intro p3 u3 hu3
    simp
    refine tx_lnR (R := IR) (xs := row) (by simpa using hu3) (by simp) ?_
    simp
    refine LoopZt.range (by kernel_rfl) row.length (by omega) (by simp) (by rfl) (by simp) (by decide) (by decide) (fun j F4 G4 H4 => Ext H2 H4 ∧ OwR H2.length 80 4 true RatQ H4 (F4 6) ((row.take j).map fun x => ((x : Int) : Rat))) ?_ ?_ ?_
    · exact ⟨Ext.refl _, by simpa using OwR.nil _ _ _ _ _ _⟩
    · rintro j F4 G4 H4 hj hF4 ⟨hx4, hO4⟩ K4 hK4
      simp at hF4 hO4
      refine Exists.elim (⟨_, gtE hj⟩ : ∃ x, row[j]? = some x) fun x hx => ?_
      have hxb := hb row hmem x (List.mem_of_getElem? hx)
      have hl4 := Ext.len hx4
      simp [hF4]
      refine tx_elem (R := IR) (xs := row) (n := j) (a := x) (e := 3) (sz := 1) (ag := false) (by simpa using Mono.ext (R := Row _ _ _ IR) hu3 hx4) (by simp [hF4]) hx (by simp) (by simp) (by simp) (by decide) ?_
      rintro p5 u5 rfl
      simp
      refine SWt.mk (qwhole_spec hxb.1 hxb.2) ?_
      rintro w H5 ⟨hx5, hw⟩
      refine tx_push (k := H2.length) (e := 80) (sz := 4) (ag := true) (by_ := 64) (z := .agg #[.bool false, .slice none 0 0, .bool false, .slice none 0 0]) (R := RatQ) (xs := (row.take j).map fun x => ((x : Int) : Rat)) (a := (x : Rat)) (by simpa using Mono.ext (R := OwR _ _ _ _ RatQ) hO4 hx5) (by simpa using hw) (by simpa using hw.whole) (by simp) (fun H' s' u y hk h => h.kept hk (by decide)) (by simp) (by simp) (by simp) (by simp) (by simp) (by rfl) (by rfl) (by first | rfl | simp [flat, flat1]) (by rfl) (by decide) (by decide) (by decide) (by simp; omega) (by have := Ext.len hx5; omega) ?_
      intro p6 v6 H6 hO6 hx6 hk6
      try simp
      refine hK4 _ _ _ (by simp [hF4]) ⟨hx6 _ (Nat.le_refl _) (hx4.tr hx5), ?_⟩
      rw [List.take_add_one, hx, List.map_append]
      simpa using hO6
    · rintro F4 G4 H4 hF4 ⟨hx4, hO4⟩
      simp at hO4
      have hTab4 := OTab.ext hTab hx4
      have hl4 := Ext.len hx4
      have hw4 := hO4.wh
      have hul := hTab.len
      simp [qt] at hul
      try simp
      refine tx_pushB (k := H.length + 1) (e := 120) (sz := 1) (ag := false) (by_ := 24) (z := .slice none 0 0) (R := EqR) (xs := us) (a := F4 6) (by simpa using hTab4.own) (by simp [EqR]) (by simpa using hw4) (by simp) (fun _ _ _ _ _ h => h) (by simp) (by simp) (by simp) (by simp) (by simp) (by rfl) (by rfl) (by rfl) (by rfl) (by decide) (by decide) (by decide) (by omega) (by omega) ?_
      intro p7 v7 H7 hO7 hx7 hk7 hg7 hl7
      simp at hk7 hg7
      have hsn := OTab.snoc (H0 := H2) (n0 := H2.length) hTab4 (fun b h0 hb => (hO4.ge hb h0).1) (fun j u b hu hb h0 => hTab.lt j u b hu hb h0) (by decide) (hO4.le (by omega)) hO7 hk7 (fun u x h => h.kept hk7 (by decide))
      try simp
      refine hK _ _ _ (by simp [hF2]) ⟨hx7 _ (by simp) (hx2.tr hx4), us ++ [F4 6], ?_⟩
      rw [List.take_add_one, hrow]
      simpa [qt] using hsn
  · rintro F2 G2 H2 hF2 ⟨hx2, us, hTab⟩
    simp at hTab
    obtain ⟨la, lc, hl3⟩ := hTab.own.len
    have hul := hTab.len
    simp [qt] at hul
    rw [hl3, hul] at hTab
    simp [hl3, hul, retOf]
    exact hQ _ _ ⟨hx0.tr hx2, la, lc, us, rfl, hTab⟩
theorem readQ_spec {v : Value} {t : List (List Int)} {H : SHeap} (hT : ITab H v t) (hl : t.length < 65536) (hr : ∀ r ∈ t, r.length < 65536) (hb : ∀ r ∈ t, ∀ x ∈ r, -9223372036854775808 ≤ x ∧ x < 9223372036854775808) :
    SW prog 32 [v] H (fun w H1 => Ext H H1 ∧ ∃ a c, w = .agg #[.slice a t.length c] ∧ QTab H1 (.slice a t.length c) (qt t)) :=
  (readO_spec hT hl hr hb).mono fun w H1 ⟨hx, a, c, us, hw, hO⟩ => ⟨hx, a, c, hw, hO.row⟩
def TabSz (N : Nat) (t : List (List Rat)) : Prop := ∀ r ∈ t, (∀ k, SzQ N (qsum (r.take k))) ∧ ∀ q ∈ r, SzQ N q
theorem TabSz.sum {N : Nat} {t : List (List Rat)} (h : TabSz N t) {r : List Rat} (hr : r ∈ t) : SzQ N (qsum r) := by
  have := (h r hr).1 r.length
  rwa [List.take_length] at this
def rload (t : List (List Rat)) (i : Nat) : Rat := qsum (t[i]?.getD [])
def mostTo (f : Nat → Rat) : Nat → Rat × Nat
  | 0 => (f 0, 0)
  | n + 1 => if (mostTo f n).1 < f n then (f n, n) else mostTo f n
theorem mostTo_at (f : Nat → Rat) (n : Nat) : (mostTo f n).1 = f (mostTo f n).2 ∧ ((mostTo f n).2 < n ∨ (mostTo f n).2 = 0) := by
  induction n with
  | zero => simp [mostTo]
  | succ n ih =>
    simp only [mostTo]
    split
    · exact ⟨rfl, .inl (Nat.lt_succ_self n)⟩
    · exact ⟨ih.1, by omega⟩
theorem mostTo_le (f : Nat → Rat) {n i : Nat} (hi : i < n) : f i ≤ (mostTo f n).1 := by
  induction n with
  | zero => omega
  | succ n ih =>
    simp only [mostTo]
    by_cases hin : i = n
    · subst hin
      split
      · exact Rat.le_refl
      · rename_i h; exact Rat.not_lt.1 h
    · have := ih (by omega)
      split
      · rename_i h; exact Rat.le_trans this (Rat.le_of_lt h)
      · exact this
theorem mostTo_lt (f : Nat → Rat) {n i : Nat} (hi : i < (mostTo f n).2) : f i < (mostTo f n).1 := by
  induction n with
  | zero => simp [mostTo] at hi
  | succ n ih =>
    simp only [mostTo] at hi ⊢
    split at hi
    · rename_i h
      rw [if_pos h]
      exact Std.lt_of_le_of_lt (mostTo_le f hi) h
    · rename_i h
      rw [if_neg h]
      exact ih hi
theorem tab_at {t : List (List Rat)} {i : Nat} (hi : i < t.length) : ∃ r, t[i]? = some r ∧ r ∈ t ∧ rload t i = qsum r :=
  ⟨_, gtE hi, List.getElem_mem hi, by simp [rload, gtE hi]⟩
theorem mostTo_sz {N : Nat} {t : List (List Rat)} (hz : TabSz N t) (ht : 0 < t.length) {n : Nat} (hn : n ≤ t.length) : SzQ N (mostTo (rload t) n).1 := by
  obtain ⟨h1, h2⟩ := mostTo_at (rload t) n
  rw [h1]
  obtain ⟨r, -, q2, q3⟩ := tab_at (t := t) (i := (mostTo (rload t) n).2) (by omega)
  rw [q3]
  exact hz.sum q2
theorem most_spec {v : Value} {t : List (List Rat)} {N : Nat} {H : SHeap} (hT : QTab H v t) (ht : 0 < t.length) (hl : t.length < 65536) (hrl : ∀ r ∈ t, r.length < 65536) (hz : TabSz N t) (hN : N ≤ 1000000) :
    SW prog 33 [.agg #[v]] H (fun u H1 => Ext H H1 ∧ ∃ w, u = .tuple #[w, .int .i64 ((mostTo (rload t) t.length).2 : Nat)] ∧ RatQ H1 w (mostTo (rload t) t.length).1) := by
  refine SW.cps fun Q hQ => ?_
  apply into_shop_table_most (by simp)
  obtain ⟨a, c, rfl⟩ := Row.len hT
  simp [Z_shop_table_most]
  have hx0 : Ext H (H ++ [.dead, .dead]) := Ext.more H (by simp)
  obtain ⟨r0, hr0, hr0m, hr0s⟩ := tab_at ht
  refine SWt.mk (load_spec (j := 0) (hT.ext hx0) hr0 (by have := hrl r0 hr0m; omega) (by omega) (hz r0 hr0m).1 (hz r0 hr0m).2 hN) ?_
  rintro s0 H1 ⟨hx1, hs0⟩
  simp
  refine Putt.mk hs0.whole ?_
  simp
  have hx2 : Ext H1 (H1 ++ [.dead]) := Ext.dead H1
  have hx02 := hx0.tr (hx1.tr hx2)
  refine SWt.mk (jobsQ_spec (hT.ext hx02)) ?_
  rintro u H3 ⟨hx3, rfl⟩
  have hT3 := hT.ext (hx02.tr hx3)
  simp
  refine LoopZt.range (by kernel_rfl) t.length (by omega) (by simp) (by rfl) (by simp) (by decide) (by decide) (fun i F3 G3 H4 => Ext H3 H4 ∧ RatQ H4 (G3 4) (mostTo (rload t) i).1 ∧ F3 5 = .int .i64 ((mostTo (rload t) i).2 : Nat)) ?_ ?_ ?_
  · refine ⟨Ext.refl _, ?_, by simp [mostTo]⟩
    simp only [mostTo, hr0s]
    simpa using hs0.ext (hx2.tr hx3)
  · rintro i F3 G3 H4 hi hF ⟨hx4, hm, h5⟩ K hK
    simp at hF hm h5
    obtain ⟨b, hb⟩ : ∃ b, (mostTo (rload t) i).1 = b := ⟨_, rfl⟩
    obtain ⟨wh, hwh⟩ : ∃ wh, (mostTo (rload t) i).2 = wh := ⟨_, rfl⟩
    have hbs : SzQ N b := by rw [← hb]; exact mostTo_sz hz ht (by omega)
    rw [hb] at hm
    rw [hwh] at h5
    obtain ⟨r, hr, hrm, hrs⟩ := tab_at hi
    refine ZXt.join (by kernel_rfl) (fun F5 G5 H5 => Ext H4 H5 ∧ RatQ H5 (G5 4) (mostTo (rload t) (i + 1)).1 ∧ F5 5 = .int .i64 ((mostTo (rload t) (i + 1)).2 : Nat)) ?_ ?_
    · rintro K' hK' -
      simp [hF, h5]
      refine SWt.mk (load_spec (j := i) (hT3.ext hx4) hr (by have := hrl r hrm; omega) (by omega) (hz r hrm).1 (hz r hrm).2 hN) ?_
      rintro s1 H5 ⟨hx5, hs1⟩
      simp
      refine Putt.mk hs1.whole ?_
      simp
      have hx6 : Ext H5 (H5 ++ [.dead]) := Ext.dead H5
      have hx46 := hx5.tr hx6
      refine SWt.mk (qcmp_spec (hs1.ext hx6) (hm.ext hx46) (hz.sum hrm) hbs hN) ?_
      rintro cc H7 ⟨hx7, rfl⟩
      simp
      refine Brt.mkD (fun hc => ?_) (fun hc => ?_)
      · have hlt : b < qsum r := by
          by_cases h1 : qsum r < b
          · rw [if_pos h1] at hc; omega
          · rw [if_neg h1] at hc
            by_cases h2 : qsum r = b
            · rw [if_pos h2] at hc; omega
            · exact Std.lt_of_le_of_ne (Rat.not_lt.1 h1) (Ne.symm h2)
        simp
        refine Putt.mk hs1.whole ?_
        simp
        refine hK' _ _ _ ⟨hx46.tr hx7, ?_, ?_⟩
        · simp only [mostTo, hb, hrs, if_pos hlt]
          simpa using hs1.ext (hx6.tr hx7)
        · simp [mostTo, hb, hrs, if_pos hlt]
      · have hlt : ¬ b < qsum r := by
          intro hlt
          rw [if_neg (fun h => Rat.lt_irrefl (Std.lt_trans h hlt)), if_neg (fun h => Rat.lt_irrefl (h ▸ hlt))] at hc
          omega
        refine hK' _ _ _ ⟨hx46.tr hx7, ?_, ?_⟩
        · simp only [mostTo, hb, hrs, if_neg hlt]
          simpa using hm.ext (hx46.tr hx7)
        · simp [mostTo, hb, hrs, if_neg hlt, hwh, h5]
    · rintro F5 G5 H5 ⟨hx5, h1, h2⟩
      exact hK _ _ _ (by simp [hF]) ⟨hx4.tr hx5, by simpa using h1, by simpa using h2⟩
  · rintro F3 G3 H4 hF ⟨hx4, hm, h5⟩
    simp at hm h5
    simp [h5]
    refine Putt.mk hm.whole ?_
    simp [retOf, h5]
    exact hQ _ _ ⟨hx02.tr (hx3.tr hx4), _, rfl, hm⟩
def turnI (m : Nat) (t : List (List Int)) : List (List Int) := (List.range m).map fun k => t.map fun r => r[k]?.getD 0
theorem qt_turn {m : Nat} {t : List (List Int)} : turn m (qt t) = qt (turnI m t) := by
  unfold turn qt turnI
  rw [List.map_map]
  apply List.map_congr_left
  intro k _
  unfold colOf
  simp
  intro r _
  cases r[k]? <;> simp
theorem qsum_from (r : List Int) (a : Int) : (r.map fun x => ((x : Int) : Rat)).foldl (· + ·) ((a : Int) : Rat) = ((a + r.sum : Int) : Rat) := by
  induction r generalizing a with
  | nil => simp
  | cons x r ih =>
    simp only [List.map_cons, List.foldl_cons, List.sum_cons]
    rw [← Rat.intCast_add, ih]
    congr 1
    omega
theorem qsum_int (r : List Int) : qsum (r.map fun x => ((x : Int) : Rat)) = ((r.sum : Int) : Rat) := by
  have := qsum_from r 0
  simpa [qsum] using this
theorem sum_bd {r : List Int} {B : Int} (h : ∀ x ∈ r, 0 ≤ x ∧ x ≤ B) : 0 ≤ r.sum ∧ r.sum ≤ B * r.length := by
  induction r with
  | nil => simp
  | cons x r ih =>
    have h1 := h x (by simp)
    have h2 := ih fun y hy => h y (by simp [hy])
    simp only [List.sum_cons, List.length_cons]
    rw [Int.natCast_add, Int.mul_add]
    simp
    omega
def SmallI (t : List (List Int)) : Prop := ∀ r ∈ t, r.length ≤ 1000 ∧ ∀ x ∈ r, 0 ≤ x ∧ x ≤ 1000000
theorem SmallI.sum {r : List Int} (h1 : r.length ≤ 1000) (h2 : ∀ x ∈ r, 0 ≤ x ∧ x ≤ 1000000) : 0 ≤ r.sum ∧ r.sum ≤ 1000000000 := by
  have := sum_bd h2
  omega
theorem SmallI.tab {t : List (List Int)} (h : SmallI t) : TabSz 64 (qt t) := by
  intro r hr
  unfold qt at hr
  rw [List.mem_map] at hr
  obtain ⟨r', hr', rfl⟩ := hr
  obtain ⟨h1, h2⟩ := h r' hr'
  refine ⟨fun k => ?_, fun q hq => ?_⟩
  · rw [← List.map_take, qsum_int]
    have := SmallI.sum (r := r'.take k) (by simp; omega) fun x hx => h2 x (List.mem_of_mem_take hx)
    exact SzQ.int (by omega) (by decide)
  · rw [List.mem_map] at hq
    obtain ⟨x, hx, rfl⟩ := hq
    have := h2 x hx
    exact SzQ.int (by omega) (by decide)
theorem SmallI.turn {m : Nat} {t : List (List Int)} (h : SmallI t) (hl : t.length ≤ 1000) : SmallI (turnI m t) := by
  intro r hr
  unfold turnI at hr
  rw [List.mem_map] at hr
  obtain ⟨k, -, rfl⟩ := hr
  refine ⟨by simpa using hl, fun x hx => ?_⟩
  rw [List.mem_map] at hx
  obtain ⟨r', hr', rfl⟩ := hx
  cases hk : r'[k]? with
  | none => simp
  | some y => exact (h r' hr').2 y (List.mem_of_getElem? hk)
theorem ValidT.small {t : List (List Int)} (h : ValidT t) : SmallI t := by
  intro r hr
  obtain ⟨h1, h2, h3, h4, h5⟩ := h
  have := h5 r hr
  unfold badRow at this
  simp at this
  refine ⟨by omega, fun x hx => ?_⟩
  have := this.2 x hx
  omega
theorem ValidT.len {t : List (List Int)} (h : ValidT t) : ∀ r ∈ t, r.length = (t[0]?.getD []).length := by
  intro r hr
  obtain ⟨h1, h2, h3, h4, h5⟩ := h
  have := h5 r hr
  unfold badRow at this
  simp at this
  simpa using this.1
def boundQ (t : List (List Int)) : Int × Int × Nat :=
  let m := (t[0]?.getD []).length
  let j := mostTo (rload (qt t)) t.length
  let k := mostTo (rload (qt (turnI m t))) m
  if j.1 < k.1 then (k.1.num, 1, k.2) else (j.1.num, 0, j.2)
theorem rload_int {t : List (List Int)} {i : Nat} : rload (qt t) i = (((t[i]?.getD []).sum : Int) : Rat) := by
  unfold rload qt
  rw [List.getElem?_map]
  cases t[i]? with
  | none => simp [qsum]
  | some r => simp only [Option.map_some, Option.getD_some]; exact qsum_int r
theorem most_int {t : List (List Int)} (h : SmallI t) (n : Nat) : (mostTo (rload (qt t)) n).1.num.natAbs ≤ 1000000000 := by
  rw [(mostTo_at _ n).1, rload_int, Rat.num_intCast]
  cases hr : t[(mostTo (rload (qt t)) n).2]? with
  | none => simp
  | some r =>
    have := h r (List.mem_of_getElem? hr)
    have := SmallI.sum this.1 this.2
    simp only [Option.getD_some]
    omega
theorem cmp_gt {a b : Rat} (hc : (0 : Int) < if a < b then -1 else if a = b then 0 else 1) : b < a := by
  by_cases h1 : a < b
  · rw [if_pos h1] at hc; omega
  · rw [if_neg h1] at hc
    by_cases h2 : a = b
    · rw [if_pos h2] at hc; omega
    · exact Std.lt_of_le_of_ne (Rat.not_lt.1 h1) (Ne.symm h2)
theorem cmp_ngt {a b : Rat} (hc : ¬ (0 : Int) < if a < b then -1 else if a = b then 0 else 1) : ¬ b < a := by
  intro hlt
  rw [if_neg (fun h => Rat.lt_irrefl (Std.lt_trans h hlt)), if_neg (fun h => Rat.lt_irrefl (h ▸ hlt))] at hc
  omega
theorem smallI_spec {v : Value} {a : Int} {H : SHeap} (hA : IntV H v a) (h0 : a.natAbs ≤ 1000000000) : SW prog 37 [v] H (fun u H1 => Ext H H1 ∧ u = .tuple #[.int .i64 a, .bool true]) := small_spec hA (by omega)
theorem bound_spec {v : Value} {t : List (List Int)} {H : SHeap} (hT : Iss H v t) (hl : t.length < 65536) (hr : ∀ r ∈ t, r.length < 65536) :
    SW prog 9 [v] H (fun u H1 => Ext H H1 ∧ (ValidT t → u = .tuple #[.int .i64 (boundQ t).1, .int .i64 (boundQ t).2.1, .int .i64 (boundQ t).2.2, .int .i64 0]) ∧ (¬ ValidT t → u = .tuple #[.int .i64 0, .int .i64 0, .int .i64 0, .int .i64 1])) := by
  refine SW.cps fun Q hQ => ?_
  obtain ⟨m, hm⟩ : ∃ m, m = (t[0]?.getD []).length := ⟨_, rfl⟩
  apply into_shop_Bound (by simp)
  simp [Z_shop_Bound]
  refine SWt.mk (valid_spec hT (by omega) fun r h => by have := hr r h; omega) ?_
  rintro u H1 ⟨hx1, rfl⟩
  simp
  refine Brt.mk (fun hv => ?good) (fun hv => ?bad)
  case bad =>
    simp at hv
    simp [retOf]
    exact hQ _ _ ⟨hx1, fun h => absurd h hv, fun _ => rfl⟩
  simp at hv
  have hs := hv.small
  have hml := hv.len
  have v1 := hv.1
  have v2 := hv.2.1
  have v3 := hv.2.2.1
  have v4 := hv.2.2.2.1
  rw [← hm] at hml v3 v4
  simp
  refine SWt.mk (readQ_spec (hT.ext hx1).row (by omega) hr fun r h x hx => by have := (hs r h).2 x hx; omega) ?_
  rintro _ H2 ⟨hx2, au, cu, rfl, hQT⟩
  simp
  have hx3 : Ext H2 (H2 ++ [.dead]) := Ext.dead H2
  have hqlen : ∀ r ∈ qt t, r.length = m := fun r h => by
    unfold qt at h
    rw [List.mem_map] at h
    obtain ⟨r', h', rfl⟩ := h
    simpa using hml r' h'
  refine SWt.mk (most_spec (N := 64) (hQT.ext hx3) (by simp [qt]; omega) (by simp [qt]; omega) (fun r h => by have := hqlen r h; omega) hs.tab (by decide)) ?_
  rintro u H4 ⟨hx4, w, rfl, hw⟩
  have hw' := hw.whole
  simp
  refine Putt.mk hw.whole ?_
  simp
  have hx5 : Ext H4 (H4 ++ [.dead]) := Ext.dead H4
  have hx25 := hx3.tr (hx4.tr hx5)
  refine SWt.mk (turned_spec (m := m) (hQT.ext hx25) (by simp [qt]; omega) (by simp [qt]; omega) hqlen (by omega)) ?_
  rintro u H6 ⟨hx6, w2, rfl, hw2⟩
  rw [qt_turn] at hw2
  have hst := hs.turn (m := m) (by omega)
  simp
  refine SWt.mk (most_spec (N := 64) hw2 (by simp [qt, turnI]; omega) (by simp [qt, turnI]; omega) (fun r h => by
    unfold qt turnI at h
    simp at h
    obtain ⟨k, -, rfl⟩ := h
    simp; omega) hst.tab (by decide)) ?_
  rintro u H7 ⟨hx7, w3, rfl, hw3⟩
  simp
  refine Putt.mk hw3.whole ?_
  simp
  have hx8 : Ext H7 (H7 ++ [.dead]) := Ext.dead H7
  have hjl : (qt t).length = t.length := by simp [qt]
  have hkl : (qt (turnI m t)).length = m := by simp [qt, turnI]
  have hx48 := hx5.tr (hx6.tr (hx7.tr hx8))
  have hj1 := most_int hs t.length
  have hk1 := most_int hst m
  rw [hjl] at hw
  rw [hkl] at hw3
  have sj := mostTo_sz hs.tab (t := qt t) (n := t.length) (by simp [qt]; omega) (by simp [qt])
  have sk := mostTo_sz hst.tab (t := qt (turnI m t)) (n := m) (by simp [qt, turnI]; omega) (by simp [qt, turnI])
  have hB : boundQ t = if (mostTo (rload (qt t)) t.length).1 < (mostTo (rload (qt (turnI m t))) m).1 then ((mostTo (rload (qt (turnI m t))) m).1.num, 1, (mostTo (rload (qt (turnI m t))) m).2) else ((mostTo (rload (qt t)) t.length).1.num, 0, (mostTo (rload (qt t)) t.length).2) := by
    unfold boundQ
    rw [← hm]
  rw [hjl, hkl]
  refine SWt.mk (qcmp_spec (N := 64) (hw3.ext hx8) (hw.ext hx48) sk sj (by decide)) ?_
  rintro u H9 ⟨hx9, rfl⟩
  simp
  refine Brt.mkD (fun hc => ?_) (fun hc => ?_)
  · have hlt := cmp_gt hc
    rw [if_pos hlt] at hB
    simp
    refine SWt.mk (over_spec (hw3.ext (hx8.tr hx9))) ?_
    rintro z H10 ⟨hx10, hz⟩
    simp
    refine SWt.mk (smallI_spec hz hk1) ?_
    rintro z H11 ⟨hx11, rfl⟩
    simp [retOf]
    exact hQ _ _ ⟨hx1.tr (hx2.tr (hx3.tr (hx4.tr (hx48.tr (hx9.tr (hx10.tr hx11)))))), fun _ => by rw [hB], fun h => absurd hv h⟩
  · have hlt := cmp_ngt hc
    rw [if_neg hlt] at hB
    simp
    refine SWt.mk (over_spec (hw.ext (hx48.tr hx9))) ?_
    rintro z H10 ⟨hx10, hz⟩
    simp
    refine SWt.mk (smallI_spec hz hj1) ?_
    rintro z H11 ⟨hx11, rfl⟩
    simp [retOf]
    exact hQ _ _ ⟨hx1.tr (hx2.tr (hx3.tr (hx4.tr (hx48.tr (hx9.tr (hx10.tr hx11)))))), fun _ => by rw [hB], fun h => absurd hv h⟩
end Go.Sx
end
section
namespace Go.Sx
def sumTo : Nat → (Nat → Rat) → Rat
  | 0, _ => 0
  | n + 1, f => sumTo n f + f n
theorem sumTo_congr {n : Nat} {f g : Nat → Rat} (h : ∀ i, i < n → f i = g i) : sumTo n f = sumTo n g := by
  induction n with
  | zero => rfl
  | succ n ih => simp only [sumTo]; rw [ih fun i hi => h i (by omega), h n (by omega)]
theorem sumTo_add (n : Nat) (f g : Nat → Rat) : sumTo n (fun i => f i + g i) = sumTo n f + sumTo n g := by
  induction n with
  | zero => simp only [sumTo]; grind
  | succ n ih => simp only [sumTo]; rw [ih]; grind
theorem sumTo_zero (n : Nat) : sumTo n (fun _ => 0) = 0 := by
  induction n with
  | zero => rfl
  | succ n ih => simp only [sumTo]; rw [ih]; grind
theorem sumTo_le {n : Nat} {f g : Nat → Rat} (h : ∀ i, i < n → f i ≤ g i) : sumTo n f ≤ sumTo n g := by
  induction n with
  | zero => simp only [sumTo]; grind
  | succ n ih => simp only [sumTo]; have := ih fun i hi => h i (by omega); have := h n (by omega); grind
theorem sumTo_nonneg {n : Nat} {f : Nat → Rat} (h : ∀ i, i < n → 0 ≤ f i) : 0 ≤ sumTo n f := by
  have := sumTo_le (n := n) (f := fun _ => 0) (g := f) h
  rw [sumTo_zero] at this; exact this
theorem sumTo_swap (n m : Nat) (f : Nat → Nat → Rat) : sumTo n (fun i => sumTo m (f i)) = sumTo m (fun k => sumTo n (fun i => f i k)) := by
  induction n with
  | zero => simp [sumTo, sumTo_zero]
  | succ n ih => simp only [sumTo]; rw [ih, ← sumTo_add]
theorem sumTo_split (n m : Nat) (f : Nat → Rat) : sumTo (n + m) f = sumTo n f + sumTo m (fun i => f (n + i)) := by
  induction m with
  | zero => simp only [sumTo, Nat.add_zero]; grind
  | succ m ih => rw [← Nat.add_assoc]; simp only [sumTo]; rw [ih]; grind
theorem sumTo_single {n : Nat} (j : Nat) (f : Nat → Rat) : sumTo n (fun i => if i = j then f i else 0) = if j < n then f j else 0 := by
  induction n with
  | zero => simp [sumTo]
  | succ n ih =>
    simp only [sumTo]; rw [ih]
    by_cases h1 : n = j
    · subst h1; simp; grind
    · by_cases h2 : j < n
      · simp [h1, h2, show j < n + 1 by omega]; grind
      · simp [h1, h2, show ¬ j < n + 1 by omega]; grind
theorem sumTo_le_of_mem {n j : Nat} {f : Nat → Rat} (h : ∀ i, i < n → 0 ≤ f i) (hj : j < n) : f j ≤ sumTo n f := by
  induction n with
  | zero => omega
  | succ n ih =>
    simp only [sumTo]
    have h0 := sumTo_nonneg (n := n) (f := f) fun i hi => h i (by omega)
    have h1 := h n (by omega)
    by_cases hjn : j = n
    · subst hjn; grind
    · have := ih (fun i hi => h i (by omega)) (by omega); grind
def cntTo (n : Nat) (p : Nat → Bool) : Nat := ((List.range n).filter p).length
theorem cntTo_succ (n : Nat) (p : Nat → Bool) : cntTo (n + 1) p = cntTo n p + if p n = true then 1 else 0 := by
  unfold cntTo
  rw [List.range_succ, List.filter_append, List.length_append]
  congr 1
  by_cases h : p n = true <;> simp [h]
theorem nodup_le {α : Type} [DecidableEq α] : ∀ {l l' : List α}, l.Nodup → (∀ x ∈ l, x ∈ l') → l.length ≤ l'.length
  | [], l', _, _ => by simp
  | x :: l, l', hn, hs => by
    have h1 := hs x (by simp)
    have hn' := List.nodup_cons.1 hn
    have h2 := nodup_le (l := l) (l' := l'.erase x) hn'.2 fun y hy => by
      have : y ≠ x := fun e => hn'.1 (e ▸ hy)
      exact (List.mem_erase_of_ne this).2 (hs y (by simp [hy]))
    have h3 := List.length_erase_of_mem h1
    have h4 := List.length_pos_of_mem h1
    simp only [List.length_cons]
    omega
theorem cntTo_ge {n : Nat} {p : Nat → Bool} {l : List Nat} (hn : l.Nodup) (h : ∀ x ∈ l, x < n ∧ p x = true) : l.length ≤ cntTo n p :=
  nodup_le hn fun x hx => by simp [h x hx]
theorem sumTo_cnt (n : Nat) (p : Nat → Bool) (c : Rat) : sumTo n (fun i => if p i = true then c else 0) = (cntTo n p : Rat) * c := by
  induction n with
  | zero => simp [sumTo, cntTo]
  | succ n ih =>
    simp only [sumTo]; rw [ih, cntTo_succ]
    by_cases h : p n = true
    · simp [h]; grind
    · simp [h]; grind
theorem hall {n : Nat} {A : Nat → Nat → Rat} {L : Rat} (h0 : ∀ i k, i < n → k < n → 0 ≤ A i k) (hr : ∀ i, i < n → sumTo n (A i) = L) (hc : ∀ k : Nat, k < n → sumTo n (fun i => A i k) = L) (hL : 0 < L)
    (J S : Nat → Bool) (hJ : ∀ j, j < n → J j = true → ∀ k : Nat, k < n → 0 < A j k → S k = true) : cntTo n J ≤ cntTo n S := by
  have e1 : sumTo n (fun j => if J j = true then L else 0) = sumTo n (fun j => sumTo n (fun k => if J j = true then A j k else 0)) := by
    apply sumTo_congr
    intro j hj
    by_cases h : J j = true
    · simp only [h, if_true]; exact (hr j hj).symm
    · simp only [if_neg h]; exact (sumTo_zero n).symm
  have e2 : sumTo n (fun j => sumTo n (fun k => if J j = true then A j k else 0)) ≤ sumTo n (fun j => sumTo n (fun k => if S k = true then A j k else 0)) := by
    refine sumTo_le fun j hj => sumTo_le fun k hk => ?_
    have := h0 j k hj hk
    by_cases h : J j = true
    · simp only [h, if_true]
      by_cases hs : S k = true
      · simp [hs]
      · rw [if_neg hs]
        have : ¬ 0 < A j k := fun hp => hs (hJ j hj h k hk hp)
        grind
    · simp only [if_neg h]
      split
      · exact this
      · grind
  have e3 : sumTo n (fun j => sumTo n (fun k => if S k = true then A j k else 0)) = sumTo n (fun k => if S k = true then L else 0) := by
    rw [sumTo_swap]
    apply sumTo_congr
    intro k hk
    by_cases h : S k = true
    · simp only [h, if_true]; exact hc k hk
    · simp only [if_neg h]; exact sumTo_zero n
  rw [← e1, sumTo_cnt, e3, sumTo_cnt] at e2
  by_cases hlt : cntTo n J ≤ cntTo n S
  · exact hlt
  · have h2 : (cntTo n S : Rat) < (cntTo n J : Rat) := by exact_mod_cast Nat.lt_of_not_le hlt
    have h3 := Rat.mul_lt_mul_of_pos_right h2 hL
    grind
def MatchOk (n : Nat) (A : Nat → Nat → Rat) (mj : List Int) : Prop := mj.length = n ∧ ∀ k : Nat, k < n → mj[k]?.getD 0 = -1 ∨ ∃ j : Nat, j < n ∧ mj[k]?.getD 0 = j ∧ 0 < A j k
structure FindR (n : Nat) (A : Nat → Nat → Rat) (mj : List Int) (sn : List Bool) (job : Nat) (b : Bool) (mj' : List Int) (sn' : List Bool) : Prop where
  len : sn'.length = n
  mono : ∀ k : Nat, sn[k]?.getD false = true → sn'[k]?.getD false = true
  no : b = false → mj' = mj ∧ (∀ k : Nat, k < n → 0 < A job k → sn'[k]?.getD false = true) ∧ ∀ k : Nat, k < n → sn'[k]?.getD false = true → sn[k]?.getD false = false → ∃ j : Nat, j < n ∧ mj[k]?.getD 0 = j ∧ ∀ i, i < n → 0 < A j i → sn'[i]?.getD false = true
  yes : b = true → MatchOk n A mj' ∧ (∀ k : Nat, sn[k]?.getD false = true → mj'[k]? = mj[k]?) ∧ ∀ j : Nat, mj'.count (j : Int) = mj.count (j : Int) + if j = job then 1 else 0
def unseen (sn : List Bool) : Nat := sn.count false
theorem unseen_set {sn : List Bool} {i : Nat} (hi : i < sn.length) (h : sn[i]?.getD false = false) : unseen (sn.set i true) + 1 = unseen sn := by
  unfold unseen
  rw [gtE hi] at h
  simp at h
  rw [List.count_set hi, h]
  have : 0 < List.count false sn := List.count_pos_iff.2 (h ▸ List.getElem_mem hi)
  simp
  omega
theorem unseen_le : ∀ {sn sn' : List Bool}, sn'.length = sn.length → (∀ k : Nat, sn[k]?.getD false = true → sn'[k]?.getD false = true) → unseen sn' ≤ unseen sn
  | [], sn', hl, _ => by
    have : sn' = [] := List.eq_nil_of_length_eq_zero (by simpa using hl)
    subst this
    exact Nat.le_refl _
  | b :: sn, [], hl, _ => by simp at hl
  | b :: sn, b' :: sn', hl, h => by
    have ih := unseen_le (sn := sn) (sn' := sn') (by simpa using hl) fun k hk => by
      have := h (k + 1)
      simp at this
      exact this hk
    have h0 := h 0
    simp at h0
    unfold unseen at ih ⊢
    rw [List.count_cons, List.count_cons]
    cases b with
    | true => simp [h0 rfl]; exact ih
    | false => cases b' <;> simp <;> omega
structure FindI (n : Nat) (A : Nat → Nat → Rat) (mj : List Int) (sn : List Bool) (job i : Nat) (sn' : List Bool) : Prop where
  len : sn'.length = n
  mono : ∀ k : Nat, sn[k]?.getD false = true → sn'[k]?.getD false = true
  done : ∀ k : Nat, k < i → 0 < A job k → sn'[k]?.getD false = true
  new : ∀ k : Nat, k < n → sn'[k]?.getD false = true → sn[k]?.getD false = false → ∃ j : Nat, j < n ∧ mj[k]?.getD 0 = j ∧ ∀ i, i < n → 0 < A j i → sn'[i]?.getD false = true
section
variable {n : Nat} {A : Nat → Nat → Rat} {mj mj' : List Int} {sn sn' sn'' : List Bool} {job i : Nat}
theorem FindI.zero (h : sn.length = n) : FindI n A mj sn job 0 sn := ⟨h, fun _ h => h, fun k hk => by omega, fun k _ h1 h2 => by rw [h1] at h2; cases h2⟩
theorem FindI.skip (h : FindI n A mj sn job i sn') (hs : sn'[i]?.getD false = true ∨ A job i ≤ 0) : FindI n A mj sn job (i + 1) sn' :=
  ⟨h.len, h.mono, fun k hk hp => by
    by_cases hki : k < i
    · exact h.done k hki hp
    · obtain rfl : k = i := by omega
      rcases hs with hs | hs
      · exact hs
      · grind, h.new⟩
theorem getD_set_b {l : List Bool} {i k : Nat} (hi : i < l.length) : (l.set i true)[k]?.getD false = (decide (k = i) || l[k]?.getD false) := by
  rw [List.getElem?_set]
  by_cases h : i = k
  · subst h; simp [hi]
  · simp [h, show ¬ k = i by omega]
theorem FindI.fail (h : FindI n A mj sn job i sn') (hi : i < n) (hsi : sn'[i]?.getD false = false) {j : Nat} (hj : j < n) (hmi : mj[i]?.getD 0 = j) (hr : FindR n A mj (sn'.set i true) j false mj' sn'') : mj' = mj ∧ FindI n A mj sn job (i + 1) sn'' := by
  obtain ⟨e, hall, hnew⟩ := hr.no rfl
  have hil : i < sn'.length := by rw [h.len]; exact hi
  have hm : ∀ k, sn'[k]?.getD false = true → sn''[k]?.getD false = true := fun k hk => hr.mono k (by rw [getD_set_b hil, hk]; simp)
  have hii : sn''[i]?.getD false = true := hr.mono i (by rw [getD_set_b hil]; simp)
  refine ⟨e, hr.len, fun k hk => hm k (h.mono k hk), fun k hk hp => ?_, fun k hk h1 h2 => ?_⟩
  · by_cases hki : k < i
    · exact hm k (h.done k hki hp)
    · obtain rfl : k = i := by omega
      exact hii
  · by_cases hki : k = i
    · subst hki; exact ⟨j, hj, hmi, hall⟩
    · by_cases hk' : sn'[k]?.getD false = true
      · obtain ⟨j', q1, q2, q3⟩ := h.new k hk hk' h2
        exact ⟨j', q1, q2, fun i hi hp => hm i (q3 i hi hp)⟩
      · exact hnew k hk h1 (by rw [getD_set_b hil]; simp [hki]; simpa using hk')
theorem FindI.end (h : FindI n A mj sn job n sn') : FindR n A mj sn job false mj sn' := ⟨h.len, h.mono, fun _ => ⟨rfl, h.done, h.new⟩, fun h => by cases h⟩
theorem count_set_int {l : List Int} {i : Nat} (hi : i < l.length) {a : Int} (j : Int) : (l.set i a).count j + (if l[i]?.getD 0 = j then 1 else 0) = l.count j + if a = j then 1 else 0 := by
  rw [List.count_set hi]
  rw [gtE hi]
  simp only [Option.getD_some, beq_iff_eq]
  by_cases h : l[i] = j
  · have : 0 < List.count j l := List.count_pos_iff.2 (h ▸ List.getElem_mem hi)
    simp [h]; split <;> omega
  · simp [h]
theorem MatchOk.set (h : MatchOk n A mj) (hi : i < n) (hj : job < n) (hp : 0 < A job i) : MatchOk n A (mj.set i (job : Int)) := by
  refine ⟨by simp [h.1], fun k hk => ?_⟩
  by_cases hki : k = i
  · subst hki
    rw [List.getElem?_set_self (by rw [h.1]; exact hk)]
    exact .inr ⟨job, hj, rfl, hp⟩
  · rw [List.getElem?_set_ne (by omega)]; exact h.2 k hk
theorem FindI.free (h : FindI n A mj sn job i sn') (hM : MatchOk n A mj) (hi : i < n) (hjob : job < n) (hp : 0 < A job i) (hsi : sn'[i]?.getD false = false) (hm : mj[i]?.getD 0 < 0) : FindR n A mj sn job true (mj.set i (job : Int)) (sn'.set i true) := by
  have hil : i < sn'.length := by rw [h.len]; exact hi
  have hml : i < mj.length := by rw [hM.1]; exact hi
  refine ⟨by simp [h.len], fun k hk => by rw [getD_set_b hil, h.mono k hk]; simp, (fun h => by cases h), fun _ => ⟨hM.set hi hjob hp, fun k hk => ?_, fun j => ?_⟩⟩
  · rw [List.getElem?_set_ne]
    rintro rfl
    rw [h.mono _ hk] at hsi; cases hsi
  · have := count_set_int hml (a := (job : Int)) (j : Int)
    rw [if_neg (by omega)] at this
    rw [Nat.add_zero] at this
    rw [this]
    congr 1
    by_cases hj : j = job
    · simp [hj]
    · rw [if_neg hj, if_neg (by omega)]
theorem FindI.moved (h : FindI n A mj sn job i sn') (hM : MatchOk n A mj) (hi : i < n) (hjob : job < n) (hp : 0 < A job i) (hsi : sn'[i]?.getD false = false) {j : Nat} (hm : mj[i]?.getD 0 = j) (hr : FindR n A mj (sn'.set i true) j true mj' sn'') : FindR n A mj sn job true (mj'.set i (job : Int)) sn'' := by
  have hil : i < sn'.length := by rw [h.len]; exact hi
  obtain ⟨hM', hkeep, hcnt⟩ := hr.yes rfl
  have hml : i < mj'.length := by rw [hM'.1]; exact hi
  have hmi : mj'[i]? = mj[i]? := hkeep i (by rw [getD_set_b hil]; simp)
  refine ⟨hr.len, fun k hk => hr.mono k (by rw [getD_set_b hil, h.mono k hk]; simp), (fun h => by cases h), fun _ => ⟨hM'.set hi hjob hp, fun k hk => ?_, fun x => ?_⟩⟩
  · rw [List.getElem?_set_ne]
    · exact hkeep k (by rw [getD_set_b hil, h.mono k hk]; simp)
    · rintro rfl
      rw [h.mono _ hk] at hsi; cases hsi
  · have := count_set_int hml (a := (job : Int)) (x : Int)
    rw [hmi, hm, hcnt x] at this
    by_cases h1 : x = j
    · subst h1
      simp at this
      by_cases h2 : x = job
      · subst h2; simp at this ⊢; omega
      · rw [if_neg h2]; rw [if_neg (by omega)] at this; omega
    · rw [if_neg (by omega), if_neg h1] at this
      by_cases h2 : x = job
      · subst h2; simp at this ⊢; omega
      · rw [if_neg h2]; rw [if_neg (by omega)] at this; omega
end
structure Matched (n : Nat) (A : Nat → Nat → Rat) (t : Nat) (mj : List Int) : Prop where
  ok : MatchOk n A mj
  cnt : ∀ j : Nat, mj.count (j : Int) = if j < t then 1 else 0
theorem Matched.zero (n : Nat) (A : Nat → Nat → Rat) : Matched n A 0 (List.replicate n (-1)) :=
  ⟨⟨by simp, fun k hk => .inl (by simp [hk])⟩, fun j => by
    simp [List.count_replicate]⟩
theorem inj_of_count {l : List Int} {x : Int} (h : l.count x ≤ 1) {a b : Nat} (ha : l[a]? = some x) (hb : l[b]? = some x) : a = b := by
  induction l generalizing a b with
  | nil => simp at ha
  | cons y l ih =>
    rw [List.count_cons] at h
    cases a with
    | zero =>
      cases b with
      | zero => rfl
      | succ b =>
        simp at ha hb
        have : 0 < l.count x := List.count_pos_iff.2 (List.mem_of_getElem? hb)
        simp [ha] at h; omega
    | succ a =>
      cases b with
      | zero =>
        simp at ha hb
        have : 0 < l.count x := List.count_pos_iff.2 (List.mem_of_getElem? ha)
        simp [hb] at h; omega
      | succ b =>
        simp at ha hb
        rw [ih (by omega) ha hb]
theorem Matched.next {n t : Nat} {A : Nat → Nat → Rat} {L : Rat} {mj mj' : List Int} {sn' : List Bool} {b : Bool} (h0 : ∀ i k, i < n → k < n → 0 ≤ A i k) (hr : ∀ i, i < n → sumTo n (A i) = L) (hc : ∀ k : Nat, k < n → sumTo n (fun i => A i k) = L) (hL : 0 < L)
    (h : Matched n A t mj) (ht : t < n) (hf : FindR n A mj (List.replicate n false) t b mj' sn') : b = true ∧ Matched n A (t + 1) mj' := by
  have hb : b = true := by
    cases b with
    | true => rfl
    | false =>
      exfalso
      obtain ⟨-, h1, h2⟩ := hf.no rfl
      have hS : ∀ k : Nat, k < n → sn'[k]?.getD false = true → ∃ j : Nat, j < n ∧ mj[k]?.getD 0 = j ∧ ∀ i, i < n → 0 < A j i → sn'[i]?.getD false = true := fun k hk hs => h2 k hk hs (by simp [hk])
      have hall := hall h0 hr hc hL (fun j => decide (j = t) || (List.range n).any fun k => sn'[k]?.getD false && mj[k]?.getD 0 == (j : Int)) (fun k => sn'[k]?.getD false) (fun j hj hJ k hk hp => by
        simp at hJ
        rcases hJ with rfl | ⟨k', q1, q2, q3⟩
        · exact h1 k hk hp
        · obtain ⟨j', w1, w2, w3⟩ := hS k' q1 q2
          have : j' = j := by omega
          subst this
          exact w3 k hk hp)
      have hge := cntTo_ge (n := n) (p := fun j => decide (j = t) || (List.range n).any fun k => sn'[k]?.getD false && mj[k]?.getD 0 == (j : Int)) (l := t :: ((List.range n).filter fun k => sn'[k]?.getD false).map fun k => (mj[k]?.getD 0).toNat) (by
        have hpart : ∀ k : Nat, k < n → sn'[k]?.getD false = true → ∃ j : Nat, j < t ∧ mj[k]? = some (j : Int) := fun k hk hs => by
          obtain ⟨j, q1, q2, -⟩ := hS k hk hs
          have hkl : k < mj.length := by rw [h.ok.1]; exact hk
          have hm : mj[k]? = some (j : Int) := by rw [gtE hkl] at q2 ⊢; simpa using q2
          have : 0 < mj.count (j : Int) := List.count_pos_iff.2 (List.mem_of_getElem? hm)
          rw [h.cnt] at this
          by_cases hjt : j < t
          · exact ⟨j, hjt, hm⟩
          · rw [if_neg hjt] at this; omega
        rw [List.nodup_cons]
        refine ⟨fun hm => ?_, ?_⟩
        · simp at hm
          obtain ⟨k, ⟨q1, q2⟩, q3⟩ := hm
          obtain ⟨j, w1, w2⟩ := hpart k q1 q2
          rw [w2] at q3; simp at q3; omega
        · rw [List.nodup_iff_pairwise_ne, List.pairwise_map]
          have hnd : ((List.range n).filter fun k => sn'[k]?.getD false).Nodup := List.nodup_range.filter _
          refine List.Pairwise.imp_of_mem (fun {a b} ha hb hab => ?_) hnd
          simp at ha hb
          obtain ⟨j1, w1, w2⟩ := hpart a ha.1 ha.2
          obtain ⟨j2, w3, w4⟩ := hpart b hb.1 hb.2
          rw [w2, w4]
          simp
          rintro rfl
          exact hab (inj_of_count (by rw [h.cnt]; split <;> omega) w2 w4)) (fun x hx => by
        simp at hx
        rcases hx with rfl | ⟨k, ⟨q1, q2⟩, q3⟩
        · exact ⟨ht, by simp⟩
        · obtain ⟨j, w1, w2, -⟩ := hS k q1 q2
          have : x = j := by omega
          subst this
          exact ⟨w1, by simp; exact .inr ⟨k, q1, q2, w2⟩⟩)
      rw [List.length_cons, List.length_map] at hge
      have : cntTo n (fun k => sn'[k]?.getD false) = ((List.range n).filter fun k => sn'[k]?.getD false).length := rfl
      omega
  obtain ⟨q1, -, q3⟩ := hf.yes hb
  refine ⟨hb, q1, fun j => ?_⟩
  rw [q3, h.cnt]
  by_cases h1 : j < t
  · rw [if_pos h1, if_neg (by omega), if_pos (by omega)]
  · by_cases h2 : j = t
    · rw [if_neg h1, if_pos h2, if_pos (by omega)]
    · rw [if_neg h1, if_neg h2, if_neg (by omega)]
structure PermOk (n : Nat) (p : List Int) : Prop where
  len : p.length = n
  job : ∀ k, k < n → ∃ j : Nat, j < n ∧ p[k]? = some (j : Int)
  cnt : ∀ j, j < n → p.count (j : Int) = 1
theorem Matched.perm {n : Nat} {A : Nat → Nat → Rat} {mj : List Int} (h : Matched n A n mj) : PermOk n mj ∧ ∀ k j : Nat, k < n → mj[k]? = some (j : Int) → 0 < A j k := by
  have hpos : ∀ k, k < n → ∃ j : Nat, j < n ∧ mj[k]? = some (j : Int) ∧ 0 < A j k := by
    intro k hk
    have hkl : k < mj.length := by rw [h.ok.1]; exact hk
    rcases h.ok.2 k hk with h1 | ⟨j, q1, q2, q3⟩
    · exfalso
      have hm : (-1 : Int) ∈ mj := by
        rw [gtE hkl] at h1
        simp at h1
        exact h1 ▸ List.getElem_mem hkl
      have := nodup_le (l := (-1 : Int) :: (List.range n).map Int.ofNat) (l' := mj) (by
        rw [List.nodup_cons]
        refine ⟨by simp, ?_⟩
        rw [List.nodup_iff_pairwise_ne, List.pairwise_map]
        exact List.Pairwise.imp (fun {a b} hab => by simp only [Int.ofNat_eq_natCast, ne_eq]; omega) List.nodup_range) (fun x hx => by
        simp at hx
        rcases hx with rfl | ⟨j, q1, rfl⟩
        · exact hm
        · have := h.cnt j
          rw [if_pos q1] at this
          exact List.count_pos_iff.1 (by rw [this]; omega))
      rw [List.length_cons, List.length_map, List.length_range, h.ok.1] at this
      omega
    · exact ⟨j, q1, by rw [gtE hkl] at q2 ⊢; simpa using q2, q3⟩
  refine ⟨⟨h.ok.1, fun k hk => ?_, fun j hj => by rw [h.cnt, if_pos hj]⟩, fun k j hk hj => ?_⟩
  · obtain ⟨j, q1, q2, -⟩ := hpos k hk
    exact ⟨j, q1, q2⟩
  · obtain ⟨j', q1, q2, q3⟩ := hpos k hk
    rw [q2] at hj
    have : j' = j := by simp at hj; omega
    exact this ▸ q3
theorem PermOk.at {n : Nat} {p : List Int} (h : PermOk n p) {j : Nat} (hj : j < n) : ∃ k, k < n ∧ p[k]? = some (j : Int) ∧ ∀ k', p[k']? = some (j : Int) → k' = k := by
  have h1 := h.cnt j hj
  have hm : (j : Int) ∈ p := List.count_pos_iff.1 (by rw [h1]; omega)
  obtain ⟨k, hk⟩ := List.mem_iff_getElem?.1 hm
  refine ⟨k, ?_, hk, fun k' hk' => inj_of_count (by rw [h1]; omega) hk' hk⟩
  have := (gsI.1 hk).1
  rw [h.len] at this; exact this
def ofPart (p : Rat × List Int) (i k : Nat) : Rat := if p.2[k]? = some (i : Int) then p.1 else 0
def psum : List (Rat × List Int) → Nat → Nat → Rat
  | [], _, _ => 0
  | p :: ps, i, k => ofPart p i k + psum ps i k
theorem psum_append (a b : List (Rat × List Int)) (i k : Nat) : psum (a ++ b) i k = psum a i k + psum b i k := by
  induction a with
  | nil => simp [psum]; grind
  | cons p a ih => simp only [List.cons_append, psum]; rw [ih]; grind
def plen : List (Rat × List Int) → Rat
  | [] => 0
  | p :: ps => p.1 + plen ps
theorem plen_append (a b : List (Rat × List Int)) : plen (a ++ b) = plen a + plen b := by
  induction a with
  | nil => simp [plen]; grind
  | cons p a ih => simp only [List.cons_append, plen]; rw [ih]; grind
theorem PermOk.row {n : Nat} {p : Rat × List Int} (h : PermOk n p.2) {i : Nat} (hi : i < n) : sumTo n (fun k => ofPart p i k) = p.1 := by
  obtain ⟨k, hk, hkj, huniq⟩ := h.at hi
  have : sumTo n (fun k' => ofPart p i k') = sumTo n (fun k' => if k' = k then p.1 else 0) := by
    apply sumTo_congr
    intro k' hk'
    unfold ofPart
    by_cases h1 : k' = k
    · subst h1; simp [hkj]
    · rw [if_neg h1, if_neg fun h2 => h1 (huniq k' h2)]
  rw [this, sumTo_single k (fun _ => p.1), if_pos hk]
theorem PermOk.col {n : Nat} {p : Rat × List Int} (h : PermOk n p.2) {k : Nat} (hk : k < n) : sumTo n (fun i => ofPart p i k) = p.1 := by
  obtain ⟨j, hj, hkj⟩ := h.job k hk
  have : sumTo n (fun i => ofPart p i k) = sumTo n (fun i => if i = j then p.1 else 0) := by
    apply sumTo_congr
    intro i hi
    unfold ofPart
    rw [hkj]
    by_cases h1 : i = j
    · subst h1; simp
    · rw [if_neg h1, if_neg]; simp; omega
  rw [this, sumTo_single j (fun _ => p.1), if_pos hj]
def sumN : Nat → (Nat → Nat) → Nat
  | 0, _ => 0
  | n + 1, f => sumN n f + f n
theorem sumN_le {n : Nat} {f g : Nat → Nat} (h : ∀ i, i < n → f i ≤ g i) : sumN n f ≤ sumN n g := by
  induction n with
  | zero => simp [sumN]
  | succ n ih => simp only [sumN]; have := ih fun i hi => h i (by omega); have := h n (by omega); omega
theorem sumN_lt {n : Nat} {f g : Nat → Nat} (h : ∀ i, i < n → f i ≤ g i) {j : Nat} (hj : j < n) (hlt : f j < g j) : sumN n f < sumN n g := by
  induction n with
  | zero => omega
  | succ n ih =>
    simp only [sumN]
    have h1 := sumN_le (n := n) fun i hi => h i (by omega)
    have h2 := h n (by omega)
    by_cases hjn : j = n
    · subst hjn; omega
    · have := ih (fun i hi => h i (by omega)) (by omega); omega
def posC (n : Nat) (B : Nat → Nat → Rat) : Nat := sumN n fun i => sumN n fun k => if 0 < B i k then 1 else 0
theorem posC_le (n : Nat) (B : Nat → Nat → Rat) : posC n B ≤ n * n := by
  have h1 : ∀ m (f : Nat → Nat) (c : Nat), (∀ i, f i ≤ c) → sumN m f ≤ m * c := by
    intro m f c hf
    induction m with
    | zero => simp [sumN]
    | succ m ih => simp only [sumN]; have := hf m; rw [Nat.succ_mul]; omega
  exact h1 n _ n fun i => by
    have := h1 n (fun k => if 0 < B i k then 1 else 0) 1 fun k => by split <;> omega
    omega
structure Lev (n : Nat) (B : Nat → Nat → Rat) (L : Rat) : Prop where
  nn : ∀ i k, i < n → k < n → 0 ≤ B i k
  row : ∀ i, i < n → sumTo n (B i) = L
  col : ∀ k, k < n → sumTo n (fun i => B i k) = L
def lessPart (B : Nat → Nat → Rat) (p : Rat × List Int) (i k : Nat) : Rat := B i k - ofPart p i k
theorem sumTo_sub (n : Nat) (f g : Nat → Rat) : sumTo n (fun i => f i - g i) = sumTo n f - sumTo n g := by
  induction n with
  | zero => simp [sumTo]; grind
  | succ n ih => simp only [sumTo]; rw [ih]; grind
theorem Lev.less {n : Nat} {B : Nat → Nat → Rat} {L : Rat} (h : Lev n B L) {p : Rat × List Int} (hp : PermOk n p.2) (h0 : 0 < p.1) (hle : ∀ k j : Nat, k < n → p.2[k]? = some (j : Int) → p.1 ≤ B j k) (hat : ∃ k j : Nat, k < n ∧ j < n ∧ p.2[k]? = some (j : Int) ∧ p.1 = B j k) :
    Lev n (lessPart B p) (L - p.1) ∧ posC n (lessPart B p) < posC n B := by
  have hnn : ∀ i k, i < n → k < n → 0 ≤ lessPart B p i k := fun i k hi hk => by
    unfold lessPart ofPart
    split
    · rename_i hj
      have := hle k i hk hj
      grind
    · have := h.nn i k hi hk
      grind
  refine ⟨⟨hnn, fun i hi => ?_, fun k hk => ?_⟩, ?_⟩
  · have : sumTo n (lessPart B p i) = sumTo n (fun k => B i k - ofPart p i k) := rfl
    rw [this, sumTo_sub, h.row i hi, hp.row hi]
  · have : sumTo n (fun i => lessPart B p i k) = sumTo n (fun i => B i k - ofPart p i k) := rfl
    rw [this, sumTo_sub, h.col k hk, hp.col hk]
  · obtain ⟨k, j, hk, hj, hkj, e⟩ := hat
    have hle2 : ∀ i k, i < n → k < n → (if 0 < lessPart B p i k then 1 else 0) ≤ (if 0 < B i k then 1 else 0) := fun i k hi hk => by
      by_cases h1 : 0 < lessPart B p i k
      · have : 0 < B i k := by
          unfold lessPart ofPart at h1
          split at h1 <;> grind
        simp [h1, this]
      · simp [h1]
    refine sumN_lt (fun i hi => sumN_le fun k hk => hle2 i k hi hk) hj (sumN_lt (fun k hk => hle2 j k hj hk) hk ?_)
    have h1 : ¬ 0 < lessPart B p j k := by unfold lessPart ofPart; rw [if_pos hkj, e]; grind
    have h2 : 0 < B j k := by rw [← e]; exact h0
    simp [h1, h2]
theorem Lev.none {n : Nat} {B : Nat → Nat → Rat} (h : Lev n B 0) {i k : Nat} (hi : i < n) (hk : k < n) : B i k = 0 := by
  have h1 := sumTo_le_of_mem (f := B i) (fun k hk => h.nn i k hi hk) hk
  rw [h.row i hi] at h1
  have := h.nn i k hi hk
  grind
structure DecI (n : Nat) (A : Nat → Nat → Rat) (L : Rat) (ps : List (Rat × List Int)) (B : Nat → Nat → Rat) : Prop where
  lev : Lev n B (L - plen ps)
  parts : ∀ p ∈ ps, 0 < p.1 ∧ PermOk n p.2
  sum : ∀ i k, i < n → k < n → A i k = psum ps i k + B i k
  few : posC n B + ps.length ≤ posC n A
theorem DecI.zero {n : Nat} {A : Nat → Nat → Rat} {L : Rat} (h : Lev n A L) : DecI n A L [] A :=
  ⟨by have : L - plen [] = L := by simp [plen]; grind
      rw [this]; exact h, by simp, fun i k _ _ => by simp [psum]; grind, by simp⟩
theorem DecI.next {n : Nat} {A : Nat → Nat → Rat} {L : Rat} {ps : List (Rat × List Int)} {B : Nat → Nat → Rat} (h : DecI n A L ps B) {p : Rat × List Int} (hp : PermOk n p.2) (h0 : 0 < p.1) (hle : ∀ k j : Nat, k < n → p.2[k]? = some (j : Int) → p.1 ≤ B j k) (hat : ∃ k j : Nat, k < n ∧ j < n ∧ p.2[k]? = some (j : Int) ∧ p.1 = B j k) :
    DecI n A L (ps ++ [p]) (lessPart B p) := by
  obtain ⟨h1, h2⟩ := h.lev.less hp h0 hle hat
  refine ⟨?_, fun q hq => ?_, fun i k hi hk => ?_, ?_⟩
  · rw [plen_append]
    have : L - (plen ps + plen [p]) = L - plen ps - p.1 := by simp [plen]; grind
    rw [this]; exact h1
  · simp at hq
    rcases hq with hq | rfl
    · exact h.parts q hq
    · exact ⟨h0, hp⟩
  · rw [psum_append, h.sum i k hi hk]
    simp [psum, lessPart]
    grind
  · have := h.few
    simp
    omega
structure DecR (n : Nat) (A : Nat → Nat → Rat) (L : Rat) (ps : List (Rat × List Int)) : Prop where
  parts : ∀ p ∈ ps, 0 < p.1 ∧ PermOk n p.2
  sum : ∀ i k, i < n → k < n → psum ps i k = A i k
  len : plen ps = L
  few : ps.length ≤ n * n
theorem DecI.end {n : Nat} {A : Nat → Nat → Rat} {L : Rat} {ps : List (Rat × List Int)} {B : Nat → Nat → Rat} (hn : 0 < n) (h : DecI n A L ps B) (hz : ¬ 0 < L - plen ps) : DecR n A L ps := by
  have h0 : 0 ≤ L - plen ps := by
    have := sumTo_nonneg (n := n) (f := B 0) fun k hk => h.lev.nn 0 k hn hk
    rw [h.lev.row 0 hn] at this
    exact this
  have e : L - plen ps = 0 := by grind
  have hl := h.lev
  rw [e] at hl
  refine ⟨h.parts, fun i k hi hk => ?_, by grind, ?_⟩
  · rw [h.sum i k hi hk, hl.none hi hk]; exact (Rat.add_zero _).symm
  · have := h.few
    have := posC_le n A
    omega
theorem plen_pos {ps : List (Rat × List Int)} (h : ∀ p ∈ ps, 0 < p.1) : 0 ≤ plen ps ∧ ∀ p ∈ ps, p.1 ≤ plen ps := by
  induction ps with
  | nil => simp [plen]
  | cons q ps ih =>
    obtain ⟨h1, h2⟩ := ih fun p hp => h p (by simp [hp])
    have h3 := h q (by simp)
    simp only [plen]
    refine ⟨by grind, fun p hp => ?_⟩
    simp at hp
    rcases hp with rfl | hp
    · grind
    · have := h2 p hp; grind
def sqA (n m : Nat) (A : Nat → Nat → Rat) (top : Rat) (i k : Nat) : Rat :=
  if i < n then (if k < m then A i k else if k = m + i then top - sumTo m (A i) else 0)
  else (if k < m then (if k = i - n then top - sumTo n (fun i' => A i' k) else 0) else A (k - m) (i - n))
theorem sqA_lev {n m : Nat} {A : Nat → Nat → Rat} {top : Rat} (h0 : ∀ i k, i < n → k < m → 0 ≤ A i k) (hr : ∀ i, i < n → sumTo m (A i) ≤ top) (hc : ∀ k, k < m → sumTo n (fun i => A i k) ≤ top) : Lev (n + m) (sqA n m A top) top := by
  refine ⟨fun i k hi hk => ?_, fun i hi => ?_, fun k hk => ?_⟩
  · unfold sqA
    split
    · rename_i h1
      split
      · exact h0 i k h1 ‹_›
      · split
        · have := hr i h1; grind
        · grind
    · split
      · split
        · have := hc k ‹_›; grind
        · grind
      · exact h0 _ _ (by omega) (by omega)
  · by_cases h1 : i < n
    · rw [Nat.add_comm, sumTo_split]
      have e1 : sumTo m (sqA n m A top i) = sumTo m (A i) := sumTo_congr fun k hk => by simp [sqA, h1, hk]
      have e2 : sumTo n (fun k => sqA n m A top i (m + k)) = sumTo n (fun k => if k = i then top - sumTo m (A i) else 0) := sumTo_congr fun k hk => by
        simp [sqA, h1]; intro; omega
      rw [e1, e2, sumTo_single i (fun _ => top - sumTo m (A i)), if_pos h1]; grind
    · rw [Nat.add_comm, sumTo_split]
      have e1 : sumTo m (sqA n m A top i) = sumTo m (fun k => if k = i - n then top - sumTo n (fun i' => A i' k) else 0) := sumTo_congr fun k hk => by simp [sqA, h1, hk]
      have e2 : sumTo n (fun k => sqA n m A top i (m + k)) = sumTo n (fun i' => A i' (i - n)) := sumTo_congr fun k hk => by
        simp [sqA, h1]; intro; omega
      rw [e1, e2, sumTo_single (i - n) (fun k => top - sumTo n (fun i' => A i' k)), if_pos (by omega)]; grind
  · rw [sumTo_split]
    by_cases h1 : k < m
    · have e1 : sumTo n (fun i => sqA n m A top i k) = sumTo n (fun i => A i k) := sumTo_congr fun i hi => by simp [sqA, h1, hi]
      have e2 : sumTo m (fun i => sqA n m A top (n + i) k) = sumTo m (fun i => if i = k then top - sumTo n (fun i' => A i' k) else 0) := sumTo_congr fun i hi => by
        simp [sqA, h1, show ¬ n + i < n by omega, show n + i - n = i by omega, eq_comm]
      rw [e1, e2, sumTo_single k (fun _ => top - sumTo n (fun i' => A i' k)), if_pos h1]; grind
    · have e1 : sumTo n (fun i => sqA n m A top i k) = sumTo n (fun i => if i = k - m then top - sumTo m (A i) else 0) := sumTo_congr fun i hi => by
        simp [sqA, h1, hi]
        congr 1
        simp; omega
      have e2 : sumTo m (fun i => sqA n m A top (n + i) k) = sumTo m (A (k - m)) := sumTo_congr fun i hi => by
        simp [sqA, h1, show ¬ n + i < n by omega, show n + i - n = i by omega]
      rw [e1, e2, sumTo_single (k - m) (fun i => top - sumTo m (A i)), if_pos (by omega)]; grind
def cutJobs (n m : Nat) (p : List Int) : List Int := (p.take m).map fun j => if (n : Int) ≤ j then -1 else j
structure JobsOk (n m : Nat) (l : List Int) : Prop where
  len : l.length = m
  rng : ∀ k, k < m → l[k]? = some (-1) ∨ ∃ j : Nat, j < n ∧ l[k]? = some (j : Int)
  inj : ∀ j : Nat, j < n → l.count (j : Int) ≤ 1
theorem cutJobs_get {n m : Nat} {p : List Int} (k : Nat) : (cutJobs n m p)[k]? = if k < m then (p[k]?).map fun j => if (n : Int) ≤ j then -1 else j else none := by
  unfold cutJobs
  rw [List.getElem?_map, List.getElem?_take]
  split <;> rfl
theorem cutJobs_some {n m : Nat} {p : List Int} {k i : Nat} (hk : k < m) (hi : i < n) : (cutJobs n m p)[k]? = some (i : Int) ↔ p[k]? = some (i : Int) := by
  rw [cutJobs_get, if_pos hk]
  cases h : p[k]? with
  | none => simp
  | some j =>
    simp
    split
    · constructor <;> intro h <;> omega
    · exact Iff.rfl
theorem PermOk.cut {n m : Nat} {p : List Int} (h : PermOk (n + m) p) : JobsOk n m (cutJobs n m p) := by
  refine ⟨by simp [cutJobs, h.len], fun k hk => ?_, fun j hj => ?_⟩
  · obtain ⟨j, q1, q2⟩ := h.job k (by omega)
    rw [cutJobs_get, if_pos hk, q2]
    by_cases hjn : j < n
    · exact .inr ⟨j, hjn, by simp; omega⟩
    · exact .inl (by simp; omega)
  · have h1 := h.cnt j (by omega)
    have h2 : (cutJobs n m p).count (j : Int) ≤ (p.take m).count (j : Int) := by
      unfold cutJobs
      generalize p.take m = l
      induction l with
      | nil => simp
      | cons x l ih =>
        simp only [List.map_cons, List.count_cons]
        by_cases hx : (n : Int) ≤ x
        · simp [hx]; omega
        · simp [hx]; omega
    have h3 : (p.take m).count (j : Int) ≤ p.count (j : Int) := (List.take_sublist m p).count_le _
    omega
structure PlanR (n m : Nat) (A : Nat → Nat → Rat) (L : Rat) (ps : List (Rat × List Int)) : Prop where
  shifts : ∀ p ∈ ps, 0 < p.1 ∧ JobsOk n m p.2
  sum : ∀ i k, i < n → k < m → psum ps i k = A i k
  len : plen ps = L
  few : ps.length ≤ (n + m) * (n + m)
theorem DecR.plan {n m : Nat} {A : Nat → Nat → Rat} {top : Rat} {ps : List (Rat × List Int)} (h : DecR (n + m) (sqA n m A top) top ps) : PlanR n m A top (ps.map fun p => (p.1, cutJobs n m p.2)) := by
  refine ⟨fun p hp => ?_, fun i k hi hk => ?_, ?_, by simpa using h.few⟩
  · simp at hp
    obtain ⟨a, b, q, rfl⟩ := hp
    obtain ⟨h1, h2⟩ := h.parts _ q
    exact ⟨h1, h2.cut⟩
  · have h1 := h.sum i k (by omega) (by omega)
    have h2 : sqA n m A top i k = A i k := by simp [sqA, hi, hk]
    rw [h2] at h1
    rw [← h1]
    generalize ps = l
    induction l with
    | nil => rfl
    | cons p l ih =>
      simp only [List.map_cons, psum]
      rw [ih]
      congr 1
      unfold ofPart
      simp only [cutJobs_some hk hi]
  · rw [← h.len]
    generalize ps = l
    induction l with
    | nil => rfl
    | cons p l ih =>
      simp only [List.map_cons, plen]
      rw [ih]
end Go.Sx
end
section
set_option maxRecDepth 8000
set_option maxHeartbeats 1000000
namespace Go.Sx
open Go.Proofs
open Go.Proofs.Tryz (prog)
attribute [-simp] tx_ia tx_ln tx_ix
theorem Row.nil_of {α : Type} {e sz : Nat} {ag : Bool} {R : SHeap → Value → α → Prop} {H : SHeap} {n c : Nat} {xs : List α} (h : Row e sz ag R H (.slice none n c) xs) : xs = [] := by
  obtain ⟨cs, ⟨a, cap, hv, h1, h2, h3⟩, h4⟩ := h
  simp at hv
  obtain ⟨rfl, rfl, rfl⟩ := hv
  by_cases hc : 0 < c
  · obtain ⟨b, i, X, all, q, -⟩ := h3 hc
    cases q
  · exact List.eq_nil_of_length_eq_zero (by omega)
theorem cloneQ_spec {v : Value} {xs : List Rat} {H : SHeap} (hX : QRow H v xs) (hl : xs.length < 65536) :
    SW prog 85 [v] H (fun u H1 => Ext H H1 ∧ OwR H.length 80 4 true RatQ H1 u xs) := by
  refine SW.cps fun Q hQ => ?_
  apply into_slices_Clone_Snum_Rat_num_Rat (by simp)
  obtain ⟨a, c, rfl⟩ := Row.len hX
  simp [Z_slices_Clone_Snum_Rat_num_Rat]
  refine Brt.mk (fun hn => ?_) (fun hn => ?_)
  · have : a = none := by simpa using hn
    subst this
    have := Row.nil_of hX
    subst this
    simp [retOf]
    exact hQ _ _ ⟨Ext.refl H, OwR.nil _ _ _ _ _ _⟩
  · refine tx_bs0 (e := 80) (sz := 4) (by simp) (by simp) ?_
    simp
    refine tx_apR (k := H.length) (e := 80) (sz := 4) (ag := true) (by_ := 64) (z := .agg #[.bool false, .slice none 0 0, .bool false, .slice none 0 0]) (R := RatQ) (xs := []) (ys := xs) (by simpa using OwR.void _ _ _ _ _ _ _) (by simpa using hX) (fun u y h => h.whole) (fun H' s' u y hk h => h.kept hk (by decide)) (by simp) (by simp) (by simp) (by simp) (by simp) (by rfl) (by rfl) (by rfl) (by decide) (by simp; omega) (by omega) ?_
    intro w H1 hO hx hk
    simp [retOf]
    exact hQ _ _ ⟨hx _ (Nat.le_refl _) (Ext.refl H), by simpa using hO⟩
def ent (t : List (List Rat)) (i k : Nat) : Rat := (t[i]?.getD [])[k]?.getD 0
structure MSt (Hc H : SHeap) (mb n : Nat) (av jv sv : Value) (t : List (List Rat)) (mj : List Int) (sn : List Bool) : Prop where
  pos : 0 < Hc.length
  ext : Ext Hc H
  tab : QTab Hc av t
  tlen : t.length = n
  rlen : ∀ r ∈ t, r.length = n
  small : n < 65536
  mbg : Hc.length ≤ mb
  blk : H[mb]? = some (.own 140 false [av, jv, sv])
  jobs : OwR Hc.length 3 1 false IR H jv mj
  seen : OwR Hc.length 4 1 false BR H sv sn
theorem MSt.more {Hc H H1 : SHeap} {mb n : Nat} {av jv sv : Value} {t : List (List Rat)} {mj : List Int} {sn : List Bool} (h : MSt Hc H mb n av jv sv t mj sn) (hx : Ext H H1) : MSt Hc H1 mb n av jv sv t mj sn :=
  ⟨h.pos, h.ext.tr hx, h.tab, h.tlen, h.rlen, h.small, h.mbg, hx.get_some h.blk, Mono.ext (R := OwR _ _ _ _ IR) h.jobs hx, Mono.ext (R := OwR _ _ _ _ BR) h.seen hx⟩
theorem MSt.seen' {Hc H H' : SHeap} {mb n : Nat} {av jv sv : Value} {t : List (List Rat)} {mj : List Int} {sn sn' : List Bool} (h : MSt Hc H mb n av jv sv t mj sn) (hx : ∀ H0 : SHeap, H0.length ≤ Hc.length → Ext H0 H → Ext H0 H') (hk : Kept H H' sv 4) (hO : OwR Hc.length 4 1 false BR H' sv sn') : MSt Hc H' mb n av jv sv t mj sn' :=
  ⟨h.pos, hx _ (Nat.le_refl _) h.ext, h.tab, h.tlen, h.rlen, h.small, h.mbg, hk _ _ h.blk (fun _ => by simp [SObj.elem?]), h.jobs.other hk (by decide) fun _ _ h => h, hO⟩
theorem MSt.jobs' {Hc H H' : SHeap} {mb n : Nat} {av jv sv : Value} {t : List (List Rat)} {mj mj' : List Int} {sn : List Bool} (h : MSt Hc H mb n av jv sv t mj sn) (hx : ∀ H0 : SHeap, H0.length ≤ Hc.length → Ext H0 H → Ext H0 H') (hk : Kept H H' jv 3) (hO : OwR Hc.length 3 1 false IR H' jv mj') : MSt Hc H' mb n av jv sv t mj' sn :=
  ⟨h.pos, hx _ (Nat.le_refl _) h.ext, h.tab, h.tlen, h.rlen, h.small, h.mbg, hk _ _ h.blk (fun _ => by simp [SObj.elem?]), hO, h.seen.other hk (by decide) fun _ _ h => h⟩
theorem sign_le {q : Rat} : ((if q < 0 then (-1 : Int) else if q = 0 then 0 else 1) ≤ 0) ↔ q ≤ 0 := by
  by_cases h1 : q < 0
  · simp [h1, Rat.le_of_lt h1]
  · by_cases h2 : q = 0
    · simp [h2]
    · simp only [if_neg h1, if_neg h2]
      constructor
      · intro h; omega
      · intro h; exact absurd (Std.lt_of_le_of_ne h h2) h1
theorem find_spec (n : Nat) : ∀ (fuel : Nat) {Hc H : SHeap} {mb job : Nat} {av jv sv : Value} {t : List (List Rat)} {mj : List Int} {sn : List Bool}, unseen sn < fuel → MSt Hc H mb n av jv sv t mj sn → sn.length = n → MatchOk n (ent t) mj → job < n →
    SW prog 86 [.pointer (some ⟨mb, 0, none⟩), .int .i64 job] H (fun u H1 => ∃ b mj' sn', u = .bool b ∧ FindR n (ent t) mj sn job b mj' sn' ∧ MSt Hc H1 mb n av jv sv t mj' sn') := by
  intro fuel
  induction fuel with
  | zero => intro Hc H mb job av jv sv t mj sn h; omega
  | succ fuel ih =>
    intro Hc H mb job av jv sv t mj sn hfuel hS hsl hM hjob
    refine SW.cps fun Q hQ => ?_
    apply into_shop_matching_find (by simp)
    have hblk := hS.blk
    have hT := hS.tab.ext hS.ext
    obtain ⟨aa, ca, rfl⟩ := Row.len hS.tab
    obtain ⟨r0, hr0⟩ : ∃ r0, t[0]? = some r0 := ⟨_, gtE (by have := hS.tlen; omega)⟩
    have hr0n := hS.rlen r0 (List.mem_of_getElem? hr0)
    have hjn := hS.small
    simp [Z_shop_matching_find, hblk]
    refine SWt.mk (machinesQ_spec hT hr0) ?_
    rintro u H1 ⟨hx1, rfl⟩
    rw [hr0n]
    have hS1 := hS.more hx1
    simp
    refine LoopZt.range (by kernel_rfl) n (by omega) (by simp) (by rfl) (by simp) (by decide) (by decide) (fun i F3 G3 H3 => ∃ sn', FindI n (ent t) mj sn job i sn' ∧ MSt Hc H3 mb n (.slice aa t.length ca) jv sv t mj sn') ?_ ?_ ?_
    · exact ⟨sn, FindI.zero hsl, hS1⟩
    · rintro i F3 G3 H3 hi hF ⟨sn', hI, hS3⟩ K hK
      simp at hF
      have hblk3 := hS3.blk
      have hT3 := hS3.tab.ext hS3.ext
      obtain ⟨bi, hbi⟩ : ∃ bi, sn'[i]? = some bi := ⟨_, gtE (by rw [hI.len]; exact hi)⟩
      refine ZXt.join (by kernel_rfl) (fun F5 G5 H5 => ∃ sn', FindI n (ent t) mj sn job (i + 1) sn' ∧ MSt Hc H5 mb n (.slice aa t.length ca) jv sv t mj sn') ?_ ?_
      · rintro K' hK' hKe
        simp [hF]
        refine ZXt.join (by kernel_rfl) (fun F5 G5 H5 => F5 35 = .bool (bi || decide (ent t job i ≤ 0)) ∧ MSt Hc H5 mb n (.slice aa t.length ca) jv sv t mj sn') ?_ ?_
        · rintro K2 hK2 -
          simp [hblk3]
          refine tx_elem (R := BR) (xs := sn') (n := i) (a := bi) (e := 4) (sz := 1) (ag := false) (by simpa using hS3.seen.row) (by simp) hbi (by simp) (by simp) (by simp) (by decide) ?_
          rintro p1 u1 rfl
          cases bi with
          | true =>
            simp
            exact hK2 _ _ _ ⟨by simp, hS3⟩
          | false =>
            obtain ⟨row, hrow⟩ : ∃ row, t[job]? = some row := ⟨_, gtE (by rw [hS.tlen]; exact hjob)⟩
            obtain ⟨q, hq⟩ : ∃ q, row[i]? = some q := ⟨_, gtE (by rw [hS.rlen row (List.mem_of_getElem? hrow)]; exact hi)⟩
            have hent : ent t job i = q := by simp [ent, hrow, hq]
            simp [hblk3]
            refine tx_elemg (R := QRow) (xs := t) (n := job) (a := row) (e := 120) (sz := 1) (ag := false) (by simp) (by decide) (by simpa using hT3) (by simp) hrow (by simp) (by simp) (by simp) (by decide) ?_
            intro p2 u2 hu2
            simp
            refine tx_elemg (R := RatQ) (xs := row) (n := i) (a := q) (e := 80) (sz := 4) (ag := true) (by simp) (by decide) (by simpa using hu2) (by simp) hq (by simp) (by simp) (by simp) (by decide) ?_
            intro p3 u3 hu3
            simp
            refine SWt.mk (qsign_spec hu3) ?_
            rintro w H5 ⟨hx5, rfl⟩
            simp
            refine hK2 _ _ _ ⟨?_, hS3.more hx5⟩
            simp [hent, sign_le]
        · rintro F5 G5 H5 ⟨h35, hS5⟩
          simp at h35
          have hblk5 := hS5.blk
          simp [h35]
          refine Brt.mk (fun hb => ?_) (fun hb => ?_)
          · refine hK' _ _ _ ⟨sn', hI.skip ?_, hS5⟩
            simp at hb
            rw [hbi]
            rcases hb with hb | hb
            · exact .inl (by simp [hb])
            · exact .inr hb
          · simp at hb
            have hp : 0 < ent t job i := Rat.not_le.1 hb.2
            have hsi : sn'[i]?.getD false = false := by rw [hbi]; simp [hb.1]
            simp [hF, hblk5]
            refine tx_put (k := Hc.length) (e := 4) (sz := 1) (ag := false) (n := i) (R := BR) (xs := sn') (a := true) (by simpa using hS5.seen) (by simp) (by rw [hI.len]; exact hi) (by simp [BR]) (by simpa using wh_bool true) (by simp) (fun _ _ _ _ _ h => h) (by simp) (by simp) (by simp) (by decide) ?_
            rintro p4 H6 hO6 hx6 hk6 hl6 -
            simp at hO6 hk6
            have hS6 := hS5.seen' hx6 hk6 hO6
            have hblk6 := hS6.blk
            obtain ⟨z, hz⟩ : ∃ z, mj[i]? = some z := ⟨_, gtE (by rw [hM.1]; exact hi)⟩
            have hzd : mj[i]?.getD 0 = z := by rw [hz]; rfl
            have hus := unseen_set (i := i) (by rw [hI.len]; exact hi) hsi
            have hun : unseen sn' ≤ unseen sn := unseen_le (by rw [hI.len, hsl]) hI.mono
            simp
            refine ZXt.join (by kernel_rfl) (fun F7 G7 H7 => ∃ b mj2 sn2, F7 60 = .bool b ∧ MSt Hc H7 mb n (.slice aa t.length ca) jv sv t mj2 sn2 ∧ mj2.length = n ∧ (b = false → mj2 = mj ∧ FindI n (ent t) mj sn job (i + 1) sn2) ∧ (b = true → FindR n (ent t) mj sn job true (mj2.set i (job : Int)) sn2)) ?_ ?_
            · rintro K3 hK3 -
              simp [hF, hblk6]
              refine tx_elem (R := IR) (xs := mj) (n := i) (a := z) (e := 3) (sz := 1) (ag := false) (by simpa using hS6.jobs.row) (by simp) hz (by simp) (by simp) (by simp) (by decide) ?_
              rintro p5 u5 rfl
              by_cases hz0 : z < 0
              · simp [hz0]
                refine hK3 _ _ _ ⟨true, mj, sn'.set i true, by simp, hS6, hM.1, fun h => (by cases h), fun _ => hI.free hM hi hjob hp hsi (by rw [hzd]; exact hz0)⟩
              · obtain ⟨j, hj, hzj, -⟩ : ∃ j : Nat, j < n ∧ z = j ∧ 0 < ent t j i := by
                  rcases hM.2 i hi with h | h
                  · rw [hzd] at h; omega
                  · rw [hzd] at h; exact h
                simp [hz0, hblk6]
                refine tx_elemg (R := IR) (xs := mj) (n := i) (a := z) (e := 3) (sz := 1) (ag := false) (by simp) (by decide) (by simpa using hS6.jobs.row) (by simp) hz (by simp) (by simp) (by simp) (by decide) ?_
                rintro p6 u6 rfl
                simp [hzj]
                refine SWt.mk (ih (sn := sn'.set i true) (by omega) hS6 (by simp [hI.len]) hM hj) ?_
                rintro w H8 ⟨b, mj2, sn2, rfl, hR, hS8⟩
                simp
                refine hK3 _ _ _ ⟨b, mj2, sn2, by simp, hS8, ?_, ?_, ?_⟩
                · cases b with
                  | false => rw [(hR.no rfl).1]; exact hM.1
                  | true => exact (hR.yes rfl).1.1
                · rintro rfl
                  exact hI.fail hi hsi hj (by rw [hzd, hzj]) hR
                · rintro rfl
                  exact hI.moved hM hi hjob hp hsi (by rw [hzd, hzj]) hR
            · rintro F7 G7 H7 ⟨b, mj2, sn2, h60, hS7, hml, hbf, hbt⟩
              simp at h60
              have hblk7 := hS7.blk
              simp [h60]
              refine Brt.mk (fun hb => ?_) (fun hb => ?_)
              · simp [hF, hblk7]
                refine tx_put (k := Hc.length) (e := 3) (sz := 1) (ag := false) (n := i) (R := IR) (xs := mj2) (a := (job : Int)) (by simpa using hS7.jobs) (by simp) (by rw [hml]; exact hi) (by simp [IR]) (by simpa using wh_int job) (by simp) (fun _ _ _ _ _ h => h) (by simp) (by simp) (by simp) (by decide) ?_
                rintro p8 H8 hO8 hx8 hk8 hl8 -
                simp at hO8 hk8
                have hS8 := hS7.jobs' hx8 hk8 hO8
                simp
                refine hKe _ _ _ _ (by simp) ?_
                simp [retOf]
                exact hQ _ _ ⟨true, _, sn2, rfl, hbt hb, hS8⟩
              · obtain ⟨rfl, hI7⟩ := hbf hb
                exact hK' _ _ _ ⟨sn2, hI7, hS7⟩
      · rintro F5 G5 H5 ⟨sn2, hI2, hS5⟩
        exact hK _ _ _ (by simp [hF]) ⟨sn2, hI2, hS5⟩
    · rintro F3 G3 H3 hF ⟨sn', hI, hS3⟩
      simp [retOf]
      exact hQ _ _ ⟨false, mj, sn', rfl, hI.end, hS3⟩
def MulOf (D : Nat) (q : Rat) : Prop := ∃ z : Int, q * (D : Rat) = (z : Rat)
theorem MulOf.add {D : Nat} {a b : Rat} (ha : MulOf D a) (hb : MulOf D b) : MulOf D (a + b) := by
  obtain ⟨x, hx⟩ := ha
  obtain ⟨y, hy⟩ := hb
  exact ⟨x + y, by rw [Rat.intCast_add, ← hx, ← hy]; grind⟩
theorem MulOf.sub {D : Nat} {a b : Rat} (ha : MulOf D a) (hb : MulOf D b) : MulOf D (a - b) := by
  obtain ⟨x, hx⟩ := ha
  obtain ⟨y, hy⟩ := hb
  exact ⟨x - y, by rw [Rat.intCast_sub, ← hx, ← hy]; grind⟩
theorem MulOf.zero (D : Nat) : MulOf D 0 := ⟨0, by simp⟩
theorem MulOf.int (z : Int) : MulOf 1 (z : Rat) := ⟨z, by simp⟩
structure Grid (D N : Nat) (L : Rat) : Prop where
  pos : 0 < D
  small : D < 2 ^ N
  top : ∃ z : Int, L * (D : Rat) ≤ (z : Rat) ∧ z.natAbs < 2 ^ N
  bits : N ≤ 1000000
theorem Grid.le {D N : Nat} {L L' : Rat} (h : Grid D N L) (hl : L' ≤ L) : Grid D N L' := by
  obtain ⟨z, hz, hzs⟩ := h.top
  exact ⟨h.pos, h.small, ⟨z, Rat.le_trans (Rat.mul_le_mul_of_nonneg_right hl (by exact_mod_cast Nat.zero_le D)) hz, hzs⟩, h.bits⟩
theorem Grid.sz {D N : Nat} {L q : Rat} (h : Grid D N L) (hq : MulOf D q) (h0 : 0 ≤ q) (hl : q ≤ L) : SzQ N q := by
  obtain ⟨zt, hzt, hzs⟩ := h.top
  obtain ⟨z, hz⟩ := hq
  have hD : (0 : Rat) < (D : Rat) := by exact_mod_cast h.pos
  have hz0 : 0 ≤ z := by
    have : (0 : Rat) ≤ (z : Rat) := by rw [← hz]; exact Rat.mul_nonneg h0 (Rat.le_of_lt hD)
    exact_mod_cast this
  have hz1 : z ≤ zt := by
    have : (z : Rat) ≤ (zt : Rat) := by
      rw [← hz]
      exact Rat.le_trans (Rat.mul_le_mul_of_nonneg_right hl (Rat.le_of_lt hD)) hzt
    exact_mod_cast this
  have e : q = Rat.divInt z D := by
    rw [Rat.divInt_eq_div, ← hz]
    have : ((D : Int) : Rat) = (D : Rat) := rfl
    rw [this, Rat.mul_div_cancel (by intro h; rw [h] at hD; exact Rat.lt_irrefl hD)]
  rw [e]
  exact SzQ.divInt (by have := h.pos; omega) (by omega) h.small
theorem Grid.int {z : Int} {N : Nat} (hz : z.natAbs < 2 ^ N) (hN : 0 < N) (hb : N ≤ 1000000) : Grid 1 N (z : Rat) :=
  ⟨by decide, Nat.one_lt_two_pow (by omega), ⟨z, by simp, hz⟩, hb⟩
theorem qsum_sumTo (r : List Rat) (k : Nat) : qsum (r.take k) = sumTo k (fun i => r[i]?.getD 0) := by
  induction k with
  | zero => simp [qsum, sumTo]
  | succ k ih =>
    by_cases hk : k < r.length
    · rw [qsum_take (gtE hk), ih]
      simp [sumTo, gtE hk]
    · have h1 : r.take (k + 1) = r.take k := by rw [List.take_of_length_le (by omega), List.take_of_length_le (by omega)]
      rw [h1, ih]
      simp only [sumTo]
      rw [List.getElem?_eq_none (by omega)]
      exact (Rat.add_zero _).symm
theorem qsum_sum {r : List Rat} {n : Nat} (h : r.length = n) : qsum r = sumTo n (fun i => r[i]?.getD 0) := by
  rw [← qsum_sumTo, List.take_of_length_le (by omega)]
theorem sumTo_mono {k n : Nat} {f : Nat → Rat} (h : k ≤ n) (h0 : ∀ i, i < n → 0 ≤ f i) : sumTo k f ≤ sumTo n f := by
  induction n with
  | zero =>
    obtain rfl : k = 0 := by omega
    exact Rat.le_refl
  | succ n ih =>
    by_cases hk : k ≤ n
    · have := ih hk fun i hi => h0 i (by omega)
      have := h0 n (by omega)
      simp only [sumTo]
      grind
    · obtain rfl : k = n + 1 := by omega
      exact Rat.le_refl
structure Dim (n m : Nat) (t : List (List Rat)) : Prop where
  len : t.length = n
  row : ∀ r ∈ t, r.length = m
theorem Dim.at {n m i : Nat} {t : List (List Rat)} (h : Dim n m t) (hi : i < n) : ∃ r, t[i]? = some r ∧ r ∈ t ∧ r.length = m ∧ (∀ k, r[k]?.getD 0 = ent t i k) ∧ qsum r = sumTo m (ent t i) := by
  have hil : i < t.length := by rw [h.len]; exact hi
  refine ⟨_, gtE hil, List.getElem_mem hil, h.row _ (List.getElem_mem hil), fun k => by simp [ent, gtE hil], ?_⟩
  rw [qsum_sum (h.row _ (List.getElem_mem hil))]
  apply sumTo_congr
  intro k _
  simp [ent, gtE hil]
theorem Dim.get {n m i k : Nat} {t : List (List Rat)} (h : Dim n m t) (hi : i < n) (hk : k < m) : ∃ r, t[i]? = some r ∧ r[k]? = some (ent t i k) ∧ r.length = m := by
  obtain ⟨r, q1, q2, q3, q4, -⟩ := h.at hi
  refine ⟨r, q1, ?_, q3⟩
  rw [← q4, gtE (by omega)]
  rfl
theorem Dim.mem {n m : Nat} {t : List (List Rat)} (h : Dim n m t) {r : List Rat} (hr : r ∈ t) : ∃ i, i < n ∧ t[i]? = some r := by
  obtain ⟨i, hi⟩ := List.mem_iff_getElem?.1 hr
  exact ⟨i, by have := (gsI.1 hi).1; rw [h.len] at this; exact this, hi⟩
def TabG (D : Nat) (t : List (List Rat)) : Prop := ∀ r ∈ t, ∀ q ∈ r, MulOf D q
theorem TabG.ent {D : Nat} {t : List (List Rat)} (h : TabG D t) (i k : Nat) : MulOf D (ent t i k) := by
  unfold Go.Sx.ent
  cases hr : t[i]? with
  | none => exact MulOf.zero D
  | some r =>
    simp only [Option.getD_some]
    cases hq : r[k]? with
    | none => exact MulOf.zero D
    | some q => exact h r (List.mem_of_getElem? hr) q (List.mem_of_getElem? hq)
theorem MulOf.sum {D n : Nat} {f : Nat → Rat} (h : ∀ i, i < n → MulOf D (f i)) : MulOf D (sumTo n f) := by
  induction n with
  | zero => exact MulOf.zero D
  | succ n ih => exact (ih fun i hi => h i (by omega)).add (h n (by omega))
theorem tabSz {D N n m : Nat} {L : Rat} {t : List (List Rat)} (hd : Dim n m t) (hg : TabG D t) (hG : Grid D N L) (h0 : ∀ i k, i < n → k < m → 0 ≤ ent t i k) (hr : ∀ i, i < n → sumTo m (ent t i) ≤ L) : TabSz N t := by
  intro r hrm
  obtain ⟨i, hi, hti⟩ := hd.mem hrm
  obtain ⟨r', q1, -, q3, q4, q5⟩ := hd.at hi
  have : r' = r := by rw [hti] at q1; exact (Option.some.inj q1).symm
  subst this
  have key : ∀ k, k ≤ m → SzQ N (qsum (r'.take k)) := fun k hk => by
    have e : qsum (r'.take k) = sumTo k (ent t i) := by
      rw [qsum_sumTo]; exact sumTo_congr fun j _ => q4 j
    rw [e]
    refine hG.sz (MulOf.sum fun j _ => hg.ent i j) (sumTo_nonneg fun j hj => h0 i j hi (by omega)) ?_
    exact Rat.le_trans (sumTo_mono hk fun j hj => h0 i j hi hj) (hr i hi)
  refine ⟨fun k => ?_, fun q hq => ?_⟩
  · by_cases hk : k ≤ m
    · exact key k hk
    · have := key m (Nat.le_refl m)
      rw [List.take_of_length_le (by omega)] at this ⊢
      exact this
  · obtain ⟨k, hk⟩ := List.mem_iff_getElem?.1 hq
    have hkm : k < m := by have := (gsI.1 hk).1; omega
    have e : q = ent t i k := by rw [← q4, hk]; rfl
    rw [e]
    refine hG.sz (hg.ent i k) (h0 i k hi hkm) (Rat.le_trans (sumTo_le_of_mem (fun j hj => h0 i j hi hj) hkm) (hr i hi))
theorem Lev.le {n : Nat} {B : Nat → Nat → Rat} {L : Rat} (h : Lev n B L) {i k : Nat} (hi : i < n) (hk : k < n) : B i k ≤ L := by
  rw [← h.row i hi]; exact sumTo_le_of_mem (fun k hk => h.nn i k hi hk) hk
theorem sumN_congr {n : Nat} {f g : Nat → Nat} (h : ∀ i, i < n → f i = g i) : sumN n f = sumN n g := Nat.le_antisymm (sumN_le fun i hi => Nat.le_of_eq (h i hi)) (sumN_le fun i hi => Nat.le_of_eq (h i hi).symm)
theorem DecI.congr {n : Nat} {A B B' : Nat → Nat → Rat} {L : Rat} {ps : List (Rat × List Int)} (h : DecI n A L ps B) (e : ∀ i k, i < n → k < n → B' i k = B i k) : DecI n A L ps B' := by
  refine ⟨⟨fun i k hi hk => by rw [e i k hi hk]; exact h.lev.nn i k hi hk, fun i hi => ?_, fun k hk => ?_⟩, h.parts, fun i k hi hk => by rw [e i k hi hk]; exact h.sum i k hi hk, ?_⟩
  · rw [← h.lev.row i hi]; exact sumTo_congr fun k hk => e i k hi hk
  · rw [← h.lev.col k hk]; exact sumTo_congr fun i hi => e i k hi hk
  · have : posC n B' = posC n B := sumN_congr fun i hi => sumN_congr fun k hk => by rw [e i k hi hk]
    rw [this]; exact h.few
def minTo (f : Nat → Rat) : Nat → Rat
  | 0 => f 0
  | n + 1 => if f n < minTo f n then f n else minTo f n
theorem minTo_le (f : Nat → Rat) {n i : Nat} (hi : i < n) : minTo f n ≤ f i := by
  induction n with
  | zero => omega
  | succ n ih =>
    simp only [minTo]
    by_cases hin : i = n
    · subst hin
      split
      · exact Rat.le_refl
      · rename_i h; exact Rat.not_lt.1 h
    · have := ih (by omega)
      split
      · rename_i h; exact Rat.le_trans (Rat.le_of_lt h) this
      · exact this
theorem minTo_at (f : Nat → Rat) (n : Nat) (hn : 0 < n) : ∃ i, i < n ∧ minTo f n = f i := by
  have key : ∀ n, ∃ i, (i < n ∨ i = 0) ∧ minTo f n = f i := by
    intro n
    induction n with
    | zero => exact ⟨0, .inr rfl, rfl⟩
    | succ n ih =>
      obtain ⟨i, h1, h2⟩ := ih
      simp only [minTo]
      split
      · exact ⟨n, .inl (by omega), rfl⟩
      · exact ⟨i, by omega, h2⟩
  obtain ⟨i, h1, h2⟩ := key n
  exact ⟨i, by omega, h2⟩
def PartR (H : SHeap) (v : Value) (p : Rat × List Int) : Prop := ∃ s1 a1 n1 c1 s2 a2 n2 c2 a3 n3 c3, v = .agg #[.bool s1, .slice a1 n1 c1, .bool s2, .slice a2 n2 c2, .slice a3 n3 c3] ∧ RatQ H (.agg #[.bool s1, .slice a1 n1 c1, .bool s2, .slice a2 n2 c2]) p.1 ∧ Row 3 1 false IR H (.slice a3 n3 c3) p.2
instance : Mono PartR := ⟨fun ⟨s1, a1, n1, c1, s2, a2, n2, c2, a3, n3, c3, h, h1, h2⟩ hx => ⟨s1, a1, n1, c1, s2, a2, n2, c2, a3, n3, c3, h, h1.ext hx, Mono.ext (R := Row _ _ _ IR) h2 hx⟩⟩
theorem PartR.wh {H : SHeap} {v : Value} {p : Rat × List Int} (h : PartR H v p) : Whole prog 113 v := by
  obtain ⟨s1, a1, n1, c1, s2, a2, n2, c2, a3, n3, c3, rfl, -⟩ := h
  exact ⟨by rfl, by simp [Value.cells, Value.oneCell'], by simp [isAg]⟩
theorem PartR.kept {H H' : SHeap} {e : Nat} {s v : Value} {p : Rat × List Int} (h : PartR H v p) (hk : Kept H H' s e) (h1 : 124 ≠ e) (h2 : 3 ≠ e) : PartR H' v p := by
  obtain ⟨s1, a1, n1, c1, s2, a2, n2, c2, a3, n3, c3, rfl, q1, q2⟩ := h
  exact ⟨s1, a1, n1, c1, s2, a2, n2, c2, a3, n3, c3, rfl, q1.kept hk h1, q2.kept hk h2 fun _ _ h => h⟩
theorem OTab.other {α : Type} {k e2 e sz e' : Nat} {ag : Bool} {R : SHeap → Value → α → Prop} {H H' : SHeap} {v s : Value} {t : List (List α)} {us : List Value} (h : OTab k e2 e sz ag R H v t us) (hk : Kept H H' s e') (h1 : e2 ≠ e') (h2 : e ≠ e') (hR : ∀ u x, R H u x → R H' u x) : OTab k e2 e sz ag R H' v t us :=
  ⟨h.pos, h.own.other hk h1 fun _ _ h => h, h.len, fun i row u q1 q2 => (h.rows i row u q1 q2).other hk h2 hR, h.dis⟩
end Go.Sx
end
