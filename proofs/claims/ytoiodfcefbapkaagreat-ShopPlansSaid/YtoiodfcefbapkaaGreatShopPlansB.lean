/- Part of the proof of ShopPlans. -/
import Derived.Test.YtoiodfcefbapkaaGreatShopPlansA
set_option linter.unusedVariables false
set_option linter.unusedSimpArgs false
section
namespace Go.Sx
def Mu.below (μ : Mu) (n : Nat) : Mu := fun b => if b < n then μ b else none
theorem Mu.below_some {μ : Mu} {n b : Nat} {k : Bk} (h : μ.below n b = some k) : b < n ∧ μ b = some k := by
  unfold Mu.below at h
  split at h
  · exact ⟨by assumption, h⟩
  · cases h
theorem Mu.below_of {μ : Mu} {n b : Nat} {k : Bk} (hb : b < n) (h : μ b = some k) : μ.below n b = some k := by simp [Mu.below, hb, h]
def WS (n : Nat) (v : Value) : Prop := ∃ (μ : Mu) (v' : Value), (∀ b k, μ b = some k → b < n) ∧ VR μ v v'
theorem WS.mono {n m : Nat} {v : Value} (h : WS n v) (hnm : n ≤ m) : WS m v := by
  obtain ⟨μ, v', h1, h2⟩ := h
  exact ⟨μ, v', fun b k hb => Nat.lt_of_lt_of_le (h1 b k hb) hnm, h2⟩
theorem WS.of {μ : Mu} {n : Nat} {v v' : Value} (hd : ∀ b k, μ b = some k → b < n) (h : VR μ v v') : WS n v := ⟨μ, v', hd, h⟩
theorem VR.restrict {μ : Mu} {n : Nat} {v v' : Value} (h : VR μ v v') : WS n v → VR (μ.below n) v v' := by
  have arr : ∀ {xs ys zs : Array Value} {ν : Mu}, (∀ b k, ν b = some k → b < n) → xs.size = ys.size → xs.size = zs.size → (∀ (i : Nat) (v v' : Value), xs[i]? = some v → ys[i]? = some v' → WS n v → VR (μ.below n) v v') →
      (∀ (i : Nat) (v v' : Value), xs[i]? = some v → zs[i]? = some v' → VR ν v v') → ∀ (i : Nat) (v v' : Value), xs[i]? = some v → ys[i]? = some v' → VR (μ.below n) v v' := by
    intro xs ys zs ν hν hl hl' ih hz i v v' hx hy
    obtain ⟨hi, -⟩ := Array.getElem?_eq_some_iff.1 hx
    have hzi : i < zs.size := hl' ▸ hi
    exact ih i v v' hx hy ⟨ν, _, hν, hz i v _ hx (Array.getElem?_eq_getElem hzi)⟩
  induction h with
  | bool b => exact fun _ => .bool b
  | int k n => exact fun _ => .int k n
  | float k n => exact fun _ => .float k n
  | str s => exact fun _ => .str s
  | nilp => exact fun _ => .nilp
  | ptr h =>
    rintro ⟨ν, u, hν, hu⟩
    obtain ⟨k, hk, -⟩ := hu.ptr_inv
    exact .ptr (Mu.below_of (hν _ _ hk) h)
  | glob g => exact fun _ => .glob g
  | nils => exact fun _ => .nils
  | void i a => exact fun _ => .void i a
  | empty hb a c => exact fun _ => .empty hb a c
  | slice h hc hl hcc hx hN =>
    rintro ⟨ν, u, hν, hu⟩
    cases hu with
    | void => omega
    | empty => omega
    | slice h' => exact .slice (Mu.below_of (hν _ _ h') h) hc hl hcc hx hN
  | agg hl _ ih =>
    rintro ⟨ν, u, hν, hu⟩
    cases hu with
    | agg hl' hz => exact .agg hl (arr hν hl hl' ih hz)
  | tuple hl _ ih =>
    rintro ⟨ν, u, hν, hu⟩
    cases hu with
    | tuple hl' hz => exact .tuple hl (arr hν hl hl' ih hz)
  | func fn hl _ hl2 _ ih ih2 =>
    rintro ⟨ν, u, hν, hu⟩
    cases hu with
    | func _ hl' hz hl2' hz2 => exact .func fn hl (arr hν hl hl' ih hz) hl2 (arr hν hl2 hl2' ih2 hz2)
  | nilFunc => exact fun _ => .nilFunc
  | iface t _ ih =>
    rintro ⟨ν, u, hν, hu⟩
    cases hu with
    | iface _ hz => exact .iface t (ih ⟨ν, _, hν, hz⟩)
  | nilIface => exact fun _ => .nilIface
  | nilMap => exact fun _ => .nilMap
theorem Ext.refl (H : SHeap) : Ext H H := ⟨[], by simp, by simp⟩
theorem Ext.trans {A B C : SHeap} (h : Ext A B) (h' : Ext B C) : Ext A C := by
  obtain ⟨N, rfl, hN⟩ := h
  obtain ⟨M, rfl, hM⟩ := h'
  exact ⟨N ++ M, by simp, fun x hx => (List.mem_append.1 hx).elim (hN x) (hM x)⟩
theorem Ext.len {A B : SHeap} (h : Ext A B) : A.length ≤ B.length := by obtain ⟨N, rfl, -⟩ := h; simp
theorem Ext.get {A B : SHeap} (h : Ext A B) {b : Nat} (hb : b < A.length) : B[b]? = A[b]? := by obtain ⟨N, rfl, -⟩ := h; exact List.getElem?_append_left hb
theorem Ext.get_some {A B : SHeap} (h : Ext A B) {b : Nat} {x : SObj} (hb : A[b]? = some x) : B[b]? = some x := by rw [h.get (gsI.1 hb).1]; exact hb
theorem Ext.new {A B : SHeap} (h : Ext A B) {b : Nat} {x : SObj} (hb : A.length ≤ b) (hx : B[b]? = some x) : ∀ e cs, x ≠ .ro e cs := by
  obtain ⟨N, rfl, hN⟩ := h
  rw [List.getElem?_append_right hb] at hx
  exact hN x (List.mem_of_getElem? hx)
theorem isOwn_get {H H' : SHeap} {b : Nat} (h : H[b]? = H'[b]?) : IsOwn H b ↔ IsOwn H' b := by unfold IsOwn; rw [h]
theorem isLive_get {H H' : SHeap} {b : Nat} (h : H[b]? = H'[b]?) : IsLive H b ↔ IsLive H' b := by unfold IsLive; rw [h]
section
variable {ops : Array Oper}
theorem mem_zipIdx_ops {i : Nat} {o : Oper} (h : ops[i]? = some o) : (o, i) ∈ ops.toList.zipIdx := by
  rw [List.mem_zipIdx_iff_getElem?]
  simpa using h
theorem edges_spec (h : regChk ops = true) {i : Nat} {o : Oper} (ho : ops[i]? = some o) {e : Edge} (he : e ∈ o.after) (hb : Region.binds .any e = true) : e.on < i := by
  simp only [regChk, Bool.and_eq_true] at h
  have := List.all_eq_true.1 h.1.1 _ (mem_zipIdx_ops ho)
  have := Array.all_eq_true'.1 this e he
  simpa [hb] using this
theorem mask_spec (h : regChk ops = true) {i j : Nat} {o : Oper} (ho : ops[i]? = some o) (hj : j < ops.size) (hb : before? (Region.before ops) j i = true) :
    ∃ e, e ∈ o.after ∧ Region.binds .any e = true ∧ (e.on = j ∨ (e.on < i ∧ before? (Region.before ops) j e.on = true)) := by
  simp only [regChk, Bool.and_eq_true] at h
  have h1 := List.all_eq_true.1 h.1.2 _ (mem_zipIdx_ops ho)
  have h2 := List.all_eq_true.1 h1 j (List.mem_range.2 hj)
  simp only [before?] at hb
  rw [hb] at h2
  simp only [Bool.not_true, Bool.false_or, Array.any_eq_true'] at h2
  obtain ⟨e, he, h3⟩ := h2
  simp only [Bool.and_eq_true, Bool.or_eq_true, beq_iff_eq, decide_eq_true_eq] at h3
  exact ⟨e, he, h3.1, h3.2⟩
theorem tmps_spec (h : regChk ops = true) {i j : Nat} {x y : Oper} (hi : ops[i]? = some x) (hj : ops[j]? = some y) (hij : i < j) : before? (Region.before ops) i j = true ∨
    ((∀ d, x.dst = some d → d ∉ y.looksAt ops ∧ y.dst ≠ some d) ∧ ∀ d, y.dst = some d → d ∉ x.looksAt ops) := by
  simp only [regChk, Bool.and_eq_true] at h
  have h1 := List.all_eq_true.1 h.2 _ (mem_zipIdx_ops hj)
  have h2 := List.all_eq_true.1 h1 _ (mem_zipIdx_ops hi)
  simp only [hij, decide_true, Bool.not_true, Bool.false_or, Bool.or_eq_true] at h2
  rcases h2 with h2 | h2
  · exact .inl h2
  · refine .inr ?_
    simp only [Bool.and_eq_true] at h2
    constructor
    · intro d hd
      have := h2.1
      simp only [hd, Bool.and_eq_true, Bool.not_eq_true', bne_iff_ne] at this
      exact ⟨by simpa using this.1, this.2⟩
    · intro d hd
      have := h2.2
      simp only [hd, Bool.not_eq_true'] at this
      simpa using this
theorem bar_spec {P : Program} {i j : Nat} {y : Oper} (h : barB P ops i = true) (hj : ops[j]? = some y) (hF : isF P y = false) (hne : j ≠ i) : before? (Region.before ops) (min i j) (max i j) = true := by
  have := List.all_eq_true.1 h _ (mem_zipIdx_ops hj)
  simpa [hF, hne] using this
def Closed (ops : Array Oper) (X : Nat → Bool) : Prop := ∀ i o e, X i = true → ops[i]? = some o → e ∈ o.after → Region.binds .any e = true → X e.on = true
def Ready (ops : Array Oper) (X : Nat → Bool) (i : Nat) (o : Oper) : Prop := ops[i]? = some o ∧ X i = false ∧ ∀ e, e ∈ o.after → Region.binds .any e = true → X e.on = true
theorem closed_before (h : regChk ops = true) {X : Nat → Bool} (hc : Closed ops X) : ∀ (i : Nat) (o : Oper), ops[i]? = some o → (∀ e, e ∈ o.after → Region.binds .any e = true → X e.on = true) → ∀ j, j < ops.size → before? (Region.before ops) j i = true → X j = true := by
  intro i
  induction i using Nat.strongRecOn with
  | _ i ih =>
    intro o ho hr j hj hb
    obtain ⟨e, he, hbd, h1 | ⟨h1, h2⟩⟩ := mask_spec h ho hj hb
    · rw [← h1]; exact hr e he hbd
    · have hX := hr e he hbd
      have hlt : e.on < ops.size := Nat.lt_trans h1 (Array.getElem?_eq_some_iff.1 ho).1
      exact ih e.on h1 ops[e.on] (Array.getElem?_eq_getElem hlt) (fun e' he' hb' => hc e.on _ e' hX (Array.getElem?_eq_getElem hlt) he' hb') j hj h2
theorem closed_before' (h : regChk ops = true) {X : Nat → Bool} (hc : Closed ops X) {i j : Nat} (hi : i < ops.size) (hX : X i = true) (hj : j < ops.size) (hb : before? (Region.before ops) j i = true) : X j = true :=
  closed_before h hc i ops[i] (Array.getElem?_eq_getElem hi) (fun e he hbd => hc i _ e hX (Array.getElem?_eq_getElem hi) he hbd) j hj hb
def Xput (X : Nat → Bool) (i : Nat) : Nat → Bool := fun j => decide (j = i) || X j
theorem closed_put {X : Nat → Bool} (hc : Closed ops X) {i : Nat} {o : Oper} (hr : Ready ops X i o) : Closed ops (Xput X i) := by
  intro j o' e hX ho he hb
  simp only [Xput, Bool.or_eq_true, decide_eq_true_eq] at hX ⊢
  rcases hX with rfl | hX
  · rw [hr.1] at ho
    obtain rfl := Option.some.inj ho
    exact .inr (hr.2.2 e he hb)
  · exact .inr (hc j o' e hX ho he hb)
def wr (ops : Array Oper) (d : Tmp) (j : Nat) : Bool := match ops[j]? with
  | some o => o.dst == some d
  | none => false
theorem wr_iff {d : Tmp} {j : Nat} : wr ops d j = true ↔ ∃ o, ops[j]? = some o ∧ o.dst = some d := by
  unfold wr
  cases h : ops[j]? <;> simp
theorem wr_lt {d : Tmp} {j : Nat} (h : wr ops d j = true) : j < ops.size := by
  obtain ⟨o, ho, -⟩ := wr_iff.1 h
  exact (Array.getElem?_eq_some_iff.1 ho).1
def best (ops : Array Oper) (X : Nat → Bool) (d : Tmp) (j : Nat) : Prop := X j = true ∧ wr ops d j = true ∧ ∀ j', X j' = true → wr ops d j' = true → j' ≤ j
open Classical in
noncomputable def cur (ops : Array Oper) (V : Nat → Value) (t0 : List Value) (X : Nat → Bool) (d : Tmp) : Value :=
  if h : ∃ j, best ops X d j then V h.choose else t0.getD d undef
theorem cur_some {V : Nat → Value} {t0 : List Value} {X : Nat → Bool} {d : Tmp} {j : Nat} (h1 : X j = true) (h2 : wr ops d j = true) (h3 : ∀ j', X j' = true → wr ops d j' = true → j' ≤ j) : cur ops V t0 X d = V j := by
  unfold cur
  have h : ∃ j, best ops X d j := ⟨j, h1, h2, h3⟩
  rw [dif_pos h]
  have hc := h.choose_spec
  have := h3 _ hc.1 hc.2.1
  have := hc.2.2 j h1 h2
  congr 1
  omega
theorem cur_none {V : Nat → Value} {t0 : List Value} {X : Nat → Bool} {d : Tmp} (h : ∀ j, X j = true → wr ops d j = false) : cur ops V t0 X d = t0.getD d undef := by
  unfold cur
  rw [dif_neg]
  rintro ⟨j, h1, h2, -⟩
  rw [h j h1] at h2
  cases h2
theorem cur_congr {V : Nat → Value} {t0 : List Value} {X Y : Nat → Bool} {d : Tmp} (h : ∀ j, wr ops d j = true → X j = Y j) : cur ops V t0 X d = cur ops V t0 Y d := by
  have e : best ops X d = best ops Y d := by
    funext j
    apply propext
    constructor
    · rintro ⟨h1, h2, h3⟩; exact ⟨h j h2 ▸ h1, h2, fun j' q1 q2 => h3 j' ((h j' q2).symm ▸ q1) q2⟩
    · rintro ⟨h1, h2, h3⟩; exact ⟨(h j h2).symm ▸ h1, h2, fun j' q1 q2 => h3 j' (h j' q2 ▸ q1) q2⟩
  unfold cur
  rw [e]
theorem cur_cases (V : Nat → Value) (t0 : List Value) (X : Nat → Bool) (d : Tmp) : (∃ j, X j = true ∧ wr ops d j = true ∧ cur ops V t0 X d = V j) ∨ cur ops V t0 X d = t0.getD d undef := by
  unfold cur
  split
  · rename_i h
    exact .inl ⟨h.choose, h.choose_spec.1, h.choose_spec.2.1, rfl⟩
  · exact .inr rfl
theorem T_length {T : Nat → List Value} {V : Nat → Value} (hT : ∀ (i : Nat) (o : Oper), ops[i]? = some o → T (i + 1) = sput (T i) o.dst (V i)) : ∀ i, i ≤ ops.size → (T i).length = (T 0).length
  | 0, _ => rfl
  | i + 1, h => by
    have hlt : i < ops.size := by omega
    rw [hT i _ (Array.getElem?_eq_getElem hlt)]
    have := T_length hT i (by omega)
    unfold sput
    split <;> simp [this]
theorem T_cur {T : Nat → List Value} {V : Nat → Value} (hT : ∀ (i : Nat) (o : Oper), ops[i]? = some o → T (i + 1) = sput (T i) o.dst (V i)) : ∀ i, i ≤ ops.size → ∀ d, d < (T 0).length → (T i).getD d undef = cur ops V (T 0) (fun j => decide (j < i)) d
  | 0, _, d, hd => by rw [cur_none]; intro j hj; simp at hj
  | i + 1, h, d, hd => by
    have hlt : i < ops.size := by omega
    have ho := Array.getElem?_eq_getElem hlt
    have ih := T_cur hT i (by omega) d hd
    have hlen := T_length hT i (by omega)
    rw [hT i _ ho]
    by_cases hw : wr ops d i = true
    · obtain ⟨o, ho', hdst⟩ := wr_iff.1 hw
      rw [ho] at ho'
      obtain rfl := Option.some.inj ho'
      rw [cur_some (j := i) (by simp) hw (fun j' h1 _ => by simp at h1; omega)]
      simp only [sput, hdst]
      simp [List.getD_eq_getElem?_getD, List.getElem?_set, hlen, hd]
    · have hne : ops[i].dst ≠ some d := fun e => hw (wr_iff.2 ⟨_, ho, e⟩)
      rw [cur_congr (Y := fun j => decide (j < i)) (fun j hj => ?_), ← ih]
      · unfold sput
        split
        · rename_i d' hd'
          have : d' ≠ d := fun e => hne (e ▸ hd')
          simp [List.getD_eq_getElem?_getD, List.getElem?_set, this]
        · rfl
      · have : j ≠ i := fun e => hw (e ▸ hj)
        simp only [decide_eq_decide]
        omega
theorem ready_writers (h : regChk ops = true) {X : Nat → Bool} (hc : Closed ops X) {i : Nat} {o : Oper} (hr : Ready ops X i o) {d : Tmp} (hd : d ∈ o.looksAt ops ∨ o.dst = some d) : ∀ j, wr ops d j = true → X j = decide (j < i) := by
  intro j hj
  obtain ⟨y, hy, hyd⟩ := wr_iff.1 hj
  have hjl : j < ops.size := wr_lt hj
  have hil : i < ops.size := (Array.getElem?_eq_some_iff.1 hr.1).1
  rcases Nat.lt_trichotomy j i with hlt | heq | hgt
  · rcases tmps_spec h hy hr.1 hlt with hb | ⟨h1, h2⟩
    · rw [closed_before h hc i o hr.1 hr.2.2 j hjl hb]; simp [hlt]
    · rcases hd with hd | hd
      · exact absurd hd (h1 d hyd).1
      · exact absurd hd (h1 d hyd).2
  · subst heq; rw [hr.2.1]; simp
  · have hX : X j = false := by
      cases hXj : X j with
      | false => rfl
      | true =>
        rcases tmps_spec h hr.1 hy hgt with hb | ⟨h1, h2⟩
        · have := closed_before' h hc hjl hXj hil hb
          rw [hr.2.1] at this
          cases this
        · rcases hd with hd | hd
          · exact absurd hd (h2 d hyd)
          · exact absurd hyd (h1 d hd).2
    rw [hX]
    simp
    omega
theorem cur_ready (h : regChk ops = true) {X : Nat → Bool} (hc : Closed ops X) {i : Nat} {o : Oper} (hr : Ready ops X i o) {V : Nat → Value} {t0 : List Value} {d : Tmp} (hd : d ∈ o.looksAt ops ∨ o.dst = some d) :
    cur ops V t0 X d = cur ops V t0 (fun j => decide (j < i)) d := cur_congr (ready_writers h hc hr hd)
theorem cur_put (h : regChk ops = true) {X : Nat → Bool} (hc : Closed ops X) {i : Nat} {o : Oper} (hr : Ready ops X i o) {V : Nat → Value} {t0 : List Value} (d : Tmp) : cur ops V t0 (Xput X i) d = if o.dst = some d then V i else cur ops V t0 X d := by
  have hil : i < ops.size := (Array.getElem?_eq_some_iff.1 hr.1).1
  split
  · rename_i hd
    refine cur_some (by simp [Xput]) (wr_iff.2 ⟨o, hr.1, hd⟩) fun j' h1 h2 => ?_
    simp only [Xput, Bool.or_eq_true, decide_eq_true_eq] at h1
    rcases h1 with rfl | h1
    · exact Nat.le_refl _
    · obtain ⟨y, hy, hyd⟩ := wr_iff.1 h2
      rcases Nat.lt_or_ge i j' with hlt | hge
      · rcases tmps_spec h hr.1 hy hlt with hb | ⟨q1, q2⟩
        · have := closed_before' h hc (wr_lt h2) h1 hil hb
          rw [hr.2.1] at this
          cases this
        · exact absurd hyd (q1 d hd).2
      · exact hge
  · rename_i hd
    refine cur_congr fun j hj => ?_
    have : j ≠ i := fun e => by
      obtain ⟨y, hy, hyd⟩ := wr_iff.1 hj
      subst e
      rw [hr.1] at hy
      obtain rfl := Option.some.inj hy
      exact hd hyd
    simp [Xput, this]
end
def clamp (s nb j : Nat) : Nat := if j < s then s else if j < nb then j + 1 else nb
def clampd (s nb j : Nat) : Nat := if j < s then s else if j < nb then j else nb
structure Inv (P : Program) (base : Nat) (ops : Array Oper) (T : Nat → List Value) (V : Nat → Value) (Hs : Nat → SHeap) (μ0 : Mu) (w0 : World) (X : Nat → Bool) (s nb : Nat) (μ : Mu) (a : Act) (w : World) : Prop where
  closed : Closed ops X
  sn : s ≤ nb
  nn : nb ≤ ops.size
  seg : ∀ j o, s ≤ j → j < nb → ops[j]? = some o → isF P o = false → barB P ops j = false
  before : ∀ j o, j < s → ops[j]? = some o → isF P o = false → X j = true
  after : ∀ j o, nb ≤ j → ops[j]? = some o → isF P o = false → X j = false
  stop : nb = ops.size ∨ ∃ o, ops[nb]? = some o ∧ isF P o = false ∧ barB P ops nb = true
  sim : Sim P base μ (Hs nb) w
  ext : ∀ b k, μ0 b = some k → μ b = some k
  dom : ∀ b k, μ b = some k → b < (Hs s).length ∨ ∃ j, s ≤ j ∧ j < nb ∧ X j = true ∧ (Hs j).length ≤ b ∧ b < (Hs (j + 1)).length
  wsH : ∀ j, s ≤ j → j ≤ nb → ∀ b k x cs v, μ b = some k → b < (Hs j).length → (Hs nb)[b]? = some x → x.cells? = some cs → v ∈ cs → WS (Hs j).length v
  wsV : ∀ j, j < ops.size → X j = true → WS (Hs (clamp s nb j)).length (V j)
  ws0 : ∀ v ∈ T 0, WS (Hs s).length v
  pos0 : 0 < (Hs 0).length
  len0 : (Hs 0).length ≤ (Hs s).length
  tl : a.tmps.size = (T 0).length
  tmps : ∀ d, d < (T 0).length → VR μ (cur ops V (T 0) X d) (a.tmps.getD d undef)
  defers : a.defers = []
  step : Step μ0 (Hs 0) w0 μ (Hs nb) w
theorem BlkR.vals {P : Program} {base : Nat} {μ : Mu} {w : World} {k : Bk} {x : SObj} (h : BlkR P base μ w k x) {cs : List Value} (hc : x.cells? = some cs) {v : Value} (hv : v ∈ cs) : ∃ v', VR μ v v' := by
  obtain ⟨i, hi⟩ := List.getElem?_of_mem hv
  cases h with
  | own hb hl hi' hs hg hN hf hfit hvv =>
    simp only [SObj.cells?, Option.some.injEq] at hc
    subst hc
    obtain ⟨v', -, h2⟩ := hvv i v hi
    exact ⟨v', h2⟩
  | ro hi' hs hvv hsz =>
    simp only [SObj.cells?, Option.some.injEq] at hc
    subst hc
    obtain ⟨v', -, h2⟩ := hvv i v hi
    exact ⟨v', h2⟩
  | dead => simp [SObj.cells?] at hc
theorem BlkR.remu {P : Program} {base : Nat} {μ μ1 : Mu} {w : World} {k : Bk} {x : SObj} (h : BlkR P base μ w k x) (he : ∀ cs v, x.cells? = some cs → v ∈ cs → ∀ v', VR μ v v' → VR μ1 v v') : BlkR P base μ1 w k x := by
  cases h with
  | own hb hl hi hs hg hN hf hfit hv => exact .own hb hl hi hs hg hN hf hfit fun i v hi => let ⟨v', h1, h2⟩ := hv i v hi; ⟨v', h1, he _ v rfl (List.mem_of_getElem? hi) v' h2⟩
  | ro hi hs hv hsz => exact .ro hi hs (fun i v hi => let ⟨v', h1, h2⟩ := hv i v hi; ⟨v', h1, he _ v rfl (List.mem_of_getElem? hi) v' h2⟩) hsz
  | dead => exact .dead
theorem Sim.grow {P : Program} {base : Nat} {μ : Mu} {H H' : SHeap} {w : World} (h : Sim P base μ H w) (he : Ext H H') : Sim P base μ H' w := by
  have hl := he.len
  refine ⟨Nat.lt_of_lt_of_le h.pos hl, h.size, fun b k hb => ⟨(h.dom b k hb).1, Nat.lt_of_lt_of_le (h.dom b k hb).2 hl⟩, fun b k x hb hx => ?_, fun b b' k k' hb hb' hne ho hlv => ?_⟩
  · rw [he.get (h.dom b k hb).2] at hx
    exact h.blk b k x hb hx
  · exact h.inj b b' k k' hb hb' hne ((isOwn_get (he.get (h.dom b k hb).2)).1 ho) ((isLive_get (he.get (h.dom b' k' hb').2)).1 hlv)
theorem Step.grow {P : Program} {base : Nat} {μ μ1 : Mu} {H H1 H2 : SHeap} {w w1 : World} (h : Step μ H w μ1 H1 w1) (hS : Sim P base μ1 H1 w1) (he : Ext H1 H2) : Step μ H w μ1 H2 w1 where
  ext := h.ext
  new := h.new
  len := Nat.le_trans h.len he.len
  own b k hb ho := h.own b k hb ((isOwn_get (he.get (hS.dom b k hb).2)).1 ho)
  os := h.os
  tape := h.tape
  output := h.output
  size := h.size
  frame := h.frame
section
variable {P : Program} {base : Nat} {ops : Array Oper} {T : Nat → List Value} {V : Nat → Value} {Hs : Nat → SHeap} {μ0 : Mu} {w0 : World} {X : Nat → Bool} {s nb : Nat} {μ : Mu} {a : Act} {w : World}
theorem seg_ext (hF : ∀ j o, ops[j]? = some o → isF P o = true → Hs (j + 1) = Hs j) (hE : ∀ j o, ops[j]? = some o → isF P o = false → barB P ops j = true ∨ Ext (Hs j) (Hs (j + 1))) (hn : nb ≤ ops.size)
    (hseg : ∀ j o, s ≤ j → j < nb → ops[j]? = some o → isF P o = false → barB P ops j = false) : ∀ (m i : Nat), s ≤ i → i + m ≤ nb → Ext (Hs i) (Hs (i + m))
  | 0, i, _, _ => Ext.refl _
  | m + 1, i, hs, hm => by
    have ih := seg_ext hF hE hn hseg m i hs (by omega)
    have hlt : i + m < ops.size := by omega
    have ho := Array.getElem?_eq_getElem hlt
    refine ih.trans ?_
    show Ext (Hs (i + m)) (Hs (i + m + 1))
    cases hf : isF P ops[i + m] with
    | true => rw [hF _ _ ho hf]; exact Ext.refl _
    | false =>
      rcases hE _ _ ho hf with hb | he
      · rw [hseg _ _ (by omega) (by omega) ho hf] at hb; cases hb
      · exact he
theorem Inv.ext_seg (I : Inv P base ops T V Hs μ0 w0 X s nb μ a w) (hF : ∀ j o, ops[j]? = some o → isF P o = true → Hs (j + 1) = Hs j) (hE : ∀ j o, ops[j]? = some o → isF P o = false → barB P ops j = true ∨ Ext (Hs j) (Hs (j + 1)))
    {i j : Nat} (h1 : s ≤ i) (h2 : i ≤ j) (h3 : j ≤ nb) : Ext (Hs i) (Hs j) := by
  have := seg_ext hF hE I.nn I.seg (j - i) i h1 (by omega)
  rwa [show i + (j - i) = j by omega] at this
theorem Inv.operand (I : Inv P base ops T V Hs μ0 w0 X s nb μ a w) (hchk : regChk ops = true) (hF : ∀ j o, ops[j]? = some o → isF P o = true → Hs (j + 1) = Hs j) (hE : ∀ j o, ops[j]? = some o → isF P o = false → barB P ops j = true ∨ Ext (Hs j) (Hs (j + 1)))
    (hT : ∀ (i : Nat) (o : Oper), ops[i]? = some o → T (i + 1) = sput (T i) o.dst (V i)) {i : Nat} {o : Oper} (hr : Ready ops X i o) {d : Tmp} (hd : d ∈ o.looksAt ops) : VR (μ.below (Hs (clampd s nb i)).length) ((T i).getD d undef) (a.tmps.getD d undef) := by
  have hil : i < ops.size := (Array.getElem?_eq_some_iff.1 hr.1).1
  by_cases hdl : @LT.lt Nat _ d (T 0).length
  · rw [T_cur hT i (by omega) d hdl, ← cur_ready hchk I.closed hr (.inl hd)]
    refine (I.tmps d hdl).restrict ?_
    have hsn := I.sn
    have hcl : (Hs s).length ≤ (Hs (clampd s nb i)).length := by
      unfold clampd
      split
      · exact Nat.le_refl _
      · split
        · exact (I.ext_seg hF hE (Nat.le_refl _) (by omega) (by omega)).len
        · exact (I.ext_seg hF hE (Nat.le_refl _) I.sn (Nat.le_refl _)).len
    rcases cur_cases (ops := ops) V (T 0) X d with ⟨j, h1, h2, h3⟩ | h3
    · rw [h3]
      have hji := ready_writers hchk I.closed hr (.inl hd) j h2
      rw [h1] at hji
      have hji' : j < i := by simpa using hji.symm
      refine (I.wsV j (wr_lt h2) h1).mono ?_
      unfold clamp
      split
      · exact hcl
      · split
        · unfold clampd
          rw [if_neg (by omega)]
          split
          · exact (I.ext_seg hF hE (by omega) (by omega) (by omega)).len
          · exact (I.ext_seg hF hE (by omega) (by omega) (by omega)).len
        · unfold clampd
          rw [if_neg (by omega), if_neg (by omega)]
          exact Nat.le_refl _
    · rw [h3]
      refine (I.ws0 _ ?_).mono hcl
      simp only [List.getD_eq_getElem?_getD, gtE hdl, Option.getD_some]
      exact List.getElem_mem hdl
  · have h1 : (T i).getD d undef = undef := by
      rw [List.getD_eq_getElem?_getD, List.getElem?_eq_none (by rw [T_length hT i (by omega)]; omega)]
      rfl
    have h2 : a.tmps.getD d undef = undef := by
      have := I.tl
      rw [Array.getD_eq_getD_getElem?, Array.getElem?_eq_none (by omega)]
      rfl
    rw [h1, h2]
    exact VR.undef _
theorem Inv.operands (I : Inv P base ops T V Hs μ0 w0 X s nb μ a w) (hchk : regChk ops = true) (hk : (ops.all fun o => o.op.operands.all okOperand) = true) (hF : ∀ j o, ops[j]? = some o → isF P o = true → Hs (j + 1) = Hs j) (hE : ∀ j o, ops[j]? = some o → isF P o = false → barB P ops j = true ∨ Ext (Hs j) (Hs (j + 1)))
    (hT : ∀ (i : Nat) (o : Oper), ops[i]? = some o → T (i + 1) = sput (T i) o.dst (V i)) {i : Nat} {o : Oper} (hr : Ready ops X i o) : ∀ x ∈ o.op.operands, VR (μ.below (Hs (clampd s nb i)).length) (sev (T i) x) (a.eval x) := by
  intro x hx
  obtain ⟨hlt, ho⟩ := Array.getElem?_eq_some_iff.1 hr.1
  cases x with
  | tmp d =>
    have : d ∈ o.looksAt ops := by
      unfold Oper.looksAt
      exact List.mem_append_left _ (List.mem_filterMap.2 ⟨.tmp d, by simpa using hx, rfl⟩)
    exact I.operand hchk hF hE hT hr this
  | const v =>
    have h1 := Array.all_eq_true.1 hk i hlt
    rw [ho] at h1
    have := Array.all_eq_true'.1 h1 _ hx
    exact flat_refl _ this
  | global g => exact .glob g
  | func f => exact .func _ rfl (fun i v v' h => by simp at h) rfl (fun i v v' h => by simp at h)
theorem Inv.wanted (I : Inv P base ops T V Hs μ0 w0 X s nb μ a w) (hchk : regChk ops = true) (hF : ∀ j o, ops[j]? = some o → isF P o = true → Hs (j + 1) = Hs j) (hE : ∀ j o, ops[j]? = some o → isF P o = false → barB P ops j = true ∨ Ext (Hs j) (Hs (j + 1)))
    (hT : ∀ (i : Nat) (o : Oper), ops[i]? = some o → T (i + 1) = sput (T i) o.dst (V i)) {i : Nat} {o : Oper} (hr : Ready ops X i o) : Region.wanted o (yielded ops a.tmps) = Region.wanted o (syielded ops (T i)) := by
  have hil : i < ops.size := (Array.getElem?_eq_some_iff.1 hr.1).1
  refine wanted_congr fun j b hg => ?_
  unfold yielded syielded
  cases hd : (ops[j]?).bind (·.dst) with
  | none => rfl
  | some d =>
    have hmem : d ∈ o.looksAt ops := by
      unfold Oper.looksAt
      refine List.mem_append_right _ ?_
      simp only [hg, hd]
      simp
    have hv := I.operand hchk hF hE hT hr hmem
    simp only [Option.bind_some]
    have hTl := T_length hT i (by omega)
    by_cases hdl : @LT.lt Nat _ d (T 0).length
    · have e1 : (T i)[d]? = some ((T i).getD d undef) := by
        rw [List.getD_eq_getElem?_getD, gtE (by omega)]
        rfl
      have e2 : a.tmps[d]? = some (a.tmps.getD d undef) := by
        have := I.tl
        rw [Array.getD_eq_getD_getElem?, Array.getElem?_eq_getElem (by omega)]
        rfl
      rw [e1, e2]
      exact hv.boolOf.symm
    · have e1 : (T i)[d]? = none := List.getElem?_eq_none (by omega)
      have e2 : a.tmps[d]? = none := Array.getElem?_eq_none (by have := I.tl; omega)
      rw [e1, e2]
theorem getD_put {a : Act} {dst : Option Tmp} {v : Value} {d n : Nat} (hl : a.tmps.size = n) (hd : d < n) : (a.put dst v).tmps.getD d undef = if dst = some d then v else a.tmps.getD d undef := by
  cases dst with
  | none => simp [Act.put]
  | some e =>
    simp only [Act.put, Array.getD_eq_getD_getElem?, Array.getElem?_setIfInBounds]
    by_cases he : e = d
    · subst he; simp [hl, hd]
    · simp [he]
theorem size_put (a : Act) (dst : Option Tmp) (v : Value) : (a.put dst v).tmps.size = a.tmps.size := by cases dst <;> simp [Act.put]
theorem Inv.runF (I : Inv P base ops T V Hs μ0 w0 X s nb μ a w) (hchk : regChk ops = true) {i : Nat} {o : Oper} (hr : Ready ops X i o) (hf : isF P o = true) {v' : Value} (hv : VR (μ.below (Hs (clampd s nb i)).length) (V i) v')
    (hF : ∀ j o, ops[j]? = some o → isF P o = true → Hs (j + 1) = Hs j) : Inv P base ops T V Hs μ0 w0 (Xput X i) s nb μ (a.put o.dst v') w := by
  have hil : i < ops.size := (Array.getElem?_eq_some_iff.1 hr.1).1
  have hne : ∀ j y, ops[j]? = some y → isF P y = false → j ≠ i := fun j y hy hyf e => by
    subst e; rw [hr.1] at hy; cases hy; rw [hf] at hyf; cases hyf
  refine { I with closed := closed_put I.closed hr, before := ?_, after := ?_, dom := ?_, wsV := ?_, tl := ?_, tmps := ?_, defers := ?_ }
  · intro j y h1 h2 h3
    simp [Xput, I.before j y h1 h2 h3]
  · intro j y h1 h2 h3
    simp [Xput, I.after j y h1 h2 h3, hne j y h2 h3]
  · intro b k hb
    rcases I.dom b k hb with h | ⟨j, h1, h2, h3, h4⟩
    · exact .inl h
    · exact .inr ⟨j, h1, h2, by simp [Xput, h3], h4⟩
  · intro j hj hX
    simp only [Xput, Bool.or_eq_true, decide_eq_true_eq] at hX
    rcases hX with rfl | hX
    · have hw : WS (Hs (clampd s nb j)).length (V j) := WS.of (fun b k hb => (Mu.below_some hb).1) hv
      have e : (Hs (clamp s nb j)).length = (Hs (clampd s nb j)).length := by
        unfold clamp clampd
        split
        · rfl
        · split
          · rw [hF j o hr.1 hf]
          · rfl
      rw [e]
      exact hw
    · exact I.wsV j hj hX
  · rw [size_put]; exact I.tl
  · intro d hd
    rw [cur_put hchk I.closed hr, getD_put I.tl hd]
    split
    · exact hv.ext fun b k hb => (Mu.below_some hb).2
    · exact I.tmps d hd
  · rw [put_defers]; exact I.defers
theorem Inv.simAt (I : Inv P base ops T V Hs μ0 w0 X s nb μ a w) (hF : ∀ j o, ops[j]? = some o → isF P o = true → Hs (j + 1) = Hs j) (hE : ∀ j o, ops[j]? = some o → isF P o = false → barB P ops j = true ∨ Ext (Hs j) (Hs (j + 1)))
    {i : Nat} (h1 : s ≤ i) (h2 : i ≤ nb) : Sim P base (μ.below (Hs i).length) (Hs i) w := by
  have he := I.ext_seg hF hE h1 h2 (Nat.le_refl _)
  refine ⟨?_, I.sim.size, fun b k hb => ⟨(I.sim.dom b k (Mu.below_some hb).2).1, (Mu.below_some hb).1⟩, fun b k x hb hx => ?_, fun b b' k k' hb hb' hne ho hl => ?_⟩
  · have := (I.ext_seg hF hE (Nat.le_refl _) h1 h2).len
    have := I.pos0
    have := I.len0
    omega
  · have hx' := he.get_some hx
    refine (I.sim.blk b k x (Mu.below_some hb).2 hx').remu fun cs v hc hv v' hvv => hvv.restrict ?_
    exact I.wsH i h1 h2 b k x cs v (Mu.below_some hb).2 (Mu.below_some hb).1 hx' hc hv
  · exact I.sim.inj b b' k k' (Mu.below_some hb).2 (Mu.below_some hb').2 hne ((isOwn_get (he.get (Mu.below_some hb).1)).2 ho) ((isLive_get (he.get (Mu.below_some hb').1)).2 hl)
end
section
variable {P : Program} {base : Nat} {ops : Array Oper} {T : Nat → List Value} {V : Nat → Value} {Hs : Nat → SHeap} {μ0 : Mu} {w0 : World} {X : Nat → Bool} {s nb : Nat} {μ : Mu} {a : Act} {w : World}
def Mu.join (μ μ1 : Mu) (l h : Nat) : Mu := fun b => if b < l then μ b else if b < h then μ1 b else μ b
theorem Inv.runM (I : Inv P base ops T V Hs μ0 w0 X s nb μ a w) (hchk : regChk ops = true) (hF : ∀ j o, ops[j]? = some o → isF P o = true → Hs (j + 1) = Hs j) (hE : ∀ j o, ops[j]? = some o → isF P o = false → barB P ops j = true ∨ Ext (Hs j) (Hs (j + 1)))
    {i : Nat} {o : Oper} (hr : Ready ops X i o) (hsi : s ≤ i) (hin : i < nb) {μ1 : Mu} {v' : Value} {w1 : World} (hv : VR μ1 (V i) v') (hS : Sim P base μ1 (Hs (i + 1)) w1) (hst : Step (μ.below (Hs i).length) (Hs i) w μ1 (Hs (i + 1)) w1) :
    ∃ μ', Inv P base ops T V Hs μ0 w0 (Xput X i) s nb μ' (a.put o.dst v') w1 := by
  have hil : i < ops.size := (Array.getElem?_eq_some_iff.1 hr.1).1
  have e1 := I.ext_seg hF hE hsi (by omega) (show i + 1 ≤ nb by omega)
  have e2 := I.ext_seg hF hE (show s ≤ i + 1 by omega) hin (Nat.le_refl _)
  have e3 := I.ext_seg hF hE hsi (by omega) (Nat.le_refl nb)
  have es := I.ext_seg hF hE (Nat.le_refl s) hsi (by omega)
  have l1 := e1.len
  have l2 := e2.len
  have ls := es.len
  have hnone : ∀ b k, μ b = some k → b < (Hs i).length ∨ (Hs (i + 1)).length ≤ b := by
    intro b k hb
    rcases I.dom b k hb with h | ⟨j, h1, h2, h3, h4, h5⟩
    · exact .inl (by omega)
    · rcases Nat.lt_trichotomy j i with hlt | heq | hgt
      · have := (I.ext_seg hF hE (show s ≤ j + 1 by omega) hlt (by omega)).len
        exact .inl (by omega)
      · subst heq; rw [hr.2.1] at h3; cases h3
      · have := (I.ext_seg hF hE (show s ≤ i + 1 by omega) hgt (by omega)).len
        exact .inr (by omega)
  have hmu : ∀ b k, μ b = some k → μ.join μ1 (Hs i).length (Hs (i + 1)).length b = some k := by
    intro b k hb
    unfold Mu.join
    rcases hnone b k hb with h | h
    · rw [if_pos h]; exact hb
    · rw [if_neg (by omega), if_neg (by omega)]; exact hb
  have hmu1 : ∀ b k, μ1 b = some k → μ.join μ1 (Hs i).length (Hs (i + 1)).length b = some k := by
    intro b k hb
    have hlt := (hS.dom b k hb).2
    unfold Mu.join
    rcases hst.new b k hb with h | h
    · rw [if_pos (Mu.below_some h).1]; exact (Mu.below_some h).2
    · rw [if_neg (by omega), if_pos hlt]; exact hb
  have hcase : ∀ b k, μ.join μ1 (Hs i).length (Hs (i + 1)).length b = some k → (b < (Hs i).length ∧ μ b = some k ∧ μ1 b = some k) ∨ ((Hs i).length ≤ b ∧ b < (Hs (i + 1)).length ∧ μ1 b = some k) ∨ ((Hs (i + 1)).length ≤ b ∧ μ b = some k) := by
    intro b k hb
    unfold Mu.join at hb
    by_cases h1 : b < (Hs i).length
    · rw [if_pos h1] at hb
      exact .inl ⟨h1, hb, hst.ext b k (Mu.below_of h1 hb)⟩
    · rw [if_neg h1] at hb
      by_cases h2 : b < (Hs (i + 1)).length
      · rw [if_pos h2] at hb; exact .inr (.inl ⟨by omega, h2, hb⟩)
      · rw [if_neg h2] at hb; exact .inr (.inr ⟨by omega, hb⟩)
  have hlt1 : ∀ b k, μ.join μ1 (Hs i).length (Hs (i + 1)).length b = some k → b < (Hs (i + 1)).length → μ1 b = some k := by
    intro b k hb hlt
    rcases hcase b k hb with h | h | h
    · exact h.2.2
    · exact h.2.2
    · omega
  have glt : ∀ b k x, μ b = some k → (Hs nb)[b]? = some x → x.cells? ≠ none → k.g < w.heap.size := fun b k x hb hx hn => (I.sim.blk b k x hb hx).lt hn
  have live_lt : ∀ b k, μ b = some k → IsLive (Hs nb) b → k.g < w.heap.size := fun b k hb ⟨x, cs, hx, hc⟩ => glt b k x hb hx (by rw [hc]; simp)
  have hnew : ∀ b k b' k', (Hs i).length ≤ b → μ1 b = some k → IsOwn (Hs (i + 1)) b → μ b' = some k' → IsLive (Hs nb) b' → b' < (Hs i).length ∨ (Hs (i + 1)).length ≤ b' → k.g ≠ k'.g := by
    intro b k b' k' hbl hb ho hb' hl' hor
    rcases hst.own b k hb ho with h | ⟨b0, k0, h1, h2, h3⟩
    · have := live_lt b' k' hb' hl'
      omega
    · by_cases h00 : b0 = b'
      ·
        subst h00
        have hm := (Mu.below_some h1).2
        rw [hm] at hb'
        obtain rfl := Option.some.inj hb'
        have hb0 := (Mu.below_some h1).1
        have ho1 : IsLive (Hs (i + 1)) b0 := (isLive_get (e2.get (by omega))).1 hl'
        exact hS.inj b b0 k k0 hb (hst.ext _ _ h1) (by omega) ho ho1
      · have := I.sim.inj b0 b' k0 k' (Mu.below_some h1).2 hb' h00 ((isOwn_get (e3.get (Mu.below_some h1).1)).2 h2) hl'
        omega
  refine ⟨μ.join μ1 (Hs i).length (Hs (i + 1)).length, ?_⟩
  refine { I with closed := closed_put I.closed hr, before := ?_, after := ?_, sim := ?_, ext := fun b k hb => hmu b k (I.ext b k hb), dom := ?_, wsH := ?_, wsV := ?_, tl := ?_, tmps := ?_, defers := ?_, step := ?_ }
  · intro j y h1 h2 h3
    simp [Xput, I.before j y h1 h2 h3]
  · intro j y h1 h2 h3
    have : j ≠ i := by omega
    simp [Xput, I.after j y h1 h2 h3, this]
  · refine ⟨I.sim.pos, hS.size, fun b k hb => ?_, fun b k x hb hx => ?_, fun b b' k k' hb hb' hne ho hl => ?_⟩
    · rcases hcase b k hb with ⟨h, h', -⟩ | ⟨h, h', h''⟩ | ⟨h, h'⟩
      · exact I.sim.dom b k h'
      · have := hS.dom b k h''; exact ⟨this.1, by omega⟩
      · exact I.sim.dom b k h'
    · by_cases hlt : b < (Hs (i + 1)).length
      · have hb1 := hlt1 b k hb hlt
        rw [e2.get hlt] at hx
        exact (hS.blk b k x hb1 hx).keep hmu1 (fun _ => rfl) (Nat.le_refl _)
      · rcases hcase b k hb with ⟨h, -, -⟩ | ⟨-, h, -⟩ | ⟨h, h'⟩
        · omega
        · omega
        · refine (I.sim.blk b k x h' hx).keep hmu (fun hn => hst.frame k.g (glt b k x h' hx hn) fun b0 k0 hb0 ho0 => ?_) hst.size
          have hb0' := Mu.below_some hb0
          obtain ⟨cs0, hcs0⟩ : ∃ cs0, x.cells? = some cs0 := by cases hq : x.cells? with | none => exact absurd hq hn | some q => exact ⟨q, rfl⟩
          exact I.sim.inj b0 b k0 k hb0'.2 h' (by omega) ((isOwn_get (e3.get hb0'.1)).2 ho0) ⟨x, cs0, hx, hcs0⟩
    · by_cases hlt : b < (Hs (i + 1)).length
      · have hb1 := hlt1 b k hb hlt
        have ho1 := (isOwn_get (e2.get hlt)).1 ho
        by_cases hlt' : b' < (Hs (i + 1)).length
        · exact hS.inj b b' k k' hb1 (hlt1 b' k' hb' hlt') hne ho1 ((isLive_get (e2.get hlt')).1 hl)
        · rcases hcase b' k' hb' with ⟨h, -, -⟩ | ⟨-, h, -⟩ | ⟨h, h'⟩
          · omega
          · omega
          · rcases hcase b k hb with ⟨q, q', -⟩ | ⟨q, q', q''⟩ | ⟨q, q'⟩
            · exact I.sim.inj b b' k k' q' h' hne ho hl
            · exact hnew b k b' k' q hb1 ho1 h' hl (.inr h)
            · omega
      · rcases hcase b k hb with ⟨h, -, -⟩ | ⟨-, h, -⟩ | ⟨h, h'⟩
        · omega
        · omega
        · rcases hcase b' k' hb' with ⟨q, q', -⟩ | ⟨q, q', q''⟩ | ⟨q, q'⟩
          · exact I.sim.inj b b' k k' h' q' hne ho hl
          · have hl1 := (isLive_get (e2.get q')).1 hl
            have ho1 : IsOwn (Hs (i + 1)) b' := by
              obtain ⟨x, cs, hx, hc⟩ := hl1
              cases x with
              | own e l c => exact ⟨e, l, c, hx⟩
              | ro e c => exact absurd rfl (e1.new q hx e c)
              | dead => simp [SObj.cells?] at hc
            exact fun e => hnew b' k' b k q q'' ho1 h' ho.live (.inr h) e.symm
          · exact I.sim.inj b b' k k' h' q' hne ho hl
  · intro b k hb
    rcases hcase b k hb with ⟨h, h', -⟩ | ⟨h, h', h''⟩ | ⟨h, h'⟩
    · rcases I.dom b k h' with q | ⟨j, q1, q2, q3, q4⟩
      · exact .inl q
      · exact .inr ⟨j, q1, q2, by simp [Xput, q3], q4⟩
    · exact .inr ⟨i, hsi, hin, by simp [Xput], h, h'⟩
    · rcases I.dom b k h' with q | ⟨j, q1, q2, q3, q4⟩
      · exact .inl q
      · exact .inr ⟨j, q1, q2, by simp [Xput, q3], q4⟩
  · intro j h1 h2 b k x cs v hb hbl hx hc hvm
    rcases hcase b k hb with ⟨h, h', -⟩ | ⟨h, h', h''⟩ | ⟨h, h'⟩
    · exact I.wsH j h1 h2 b k x cs v h' hbl hx hc hvm
    · have hji : i + 1 ≤ j := by
        rcases Nat.lt_or_ge i j with q | q
        · exact q
        · have := (I.ext_seg hF hE h1 q (by omega)).len
          omega
      rw [e2.get h'] at hx
      obtain ⟨u, hu⟩ := (hS.blk b k x h'' hx).vals hc hvm
      exact (WS.of (fun b k hb => (hS.dom b k hb).2) hu).mono (I.ext_seg hF hE (by omega) hji h2).len
    · exact I.wsH j h1 h2 b k x cs v h' hbl hx hc hvm
  · intro j hj hX
    simp only [Xput, Bool.or_eq_true, decide_eq_true_eq] at hX
    rcases hX with rfl | hX
    · unfold clamp
      rw [if_neg (by omega), if_pos hin]
      exact WS.of (fun b k hb => (hS.dom b k hb).2) hv
    · exact I.wsV j hj hX
  · rw [size_put]; exact I.tl
  · intro d hd
    rw [cur_put hchk I.closed hr, getD_put I.tl hd]
    split
    · exact hv.ext hmu1
    · exact (I.tmps d hd).ext hmu
  · rw [put_defers]; exact I.defers
  · have hl0 := I.len0
    refine ⟨fun b k hb => hmu b k (I.ext b k hb), fun b k hb => ?_, I.step.len, fun b k hb ho => ?_, hst.os.trans I.step.os, hst.tape.trans I.step.tape, hst.output.trans I.step.output, Nat.le_trans I.step.size hst.size, fun g hg hne => ?_⟩
    · rcases hcase b k hb with ⟨h, h', -⟩ | ⟨h, h', h''⟩ | ⟨h, h'⟩
      · exact I.step.new b k h'
      · exact .inr (by omega)
      · exact I.step.new b k h'
    · rcases hcase b k hb with ⟨h, h', -⟩ | ⟨h, h', h''⟩ | ⟨h, h'⟩
      · exact I.step.own b k h' ho
      · rcases hst.own b k h'' ((isOwn_get (e2.get h')).1 ho) with q | ⟨b0, k0, q1, q2, q3⟩
        · exact .inl (Nat.le_trans I.step.size q)
        · have q1' := Mu.below_some q1
          rcases I.step.own b0 k0 q1'.2 ((isOwn_get (e3.get q1'.1)).2 q2) with r | ⟨b1, k1, r1, r2, r3⟩
          · exact .inl (by omega)
          · exact .inr ⟨b1, k1, r1, r2, by omega⟩
      · exact I.step.own b k h' ho
    · rw [hst.frame g (Nat.lt_of_lt_of_le hg I.step.size) fun b k hb ho => ?_, I.step.frame g hg hne]
      have hb' := Mu.below_some hb
      rcases I.step.own b k hb'.2 ((isOwn_get (e3.get hb'.1)).2 ho) with r | ⟨b1, k1, r1, r2, r3⟩
      · omega
      · exact fun e => hne b1 k1 r1 r2 (by omega)
theorem next_bar (ops : Array Oper) : ∀ (m i : Nat), i + m = ops.size → ∃ nb, i ≤ nb ∧ nb ≤ ops.size ∧ (∀ j o, i ≤ j → j < nb → ops[j]? = some o → isF P o = false → barB P ops j = false) ∧ (nb = ops.size ∨ ∃ o, ops[nb]? = some o ∧ isF P o = false ∧ barB P ops nb = true)
  | 0, i, h => ⟨i, Nat.le_refl _, by omega, fun j o h1 h2 => by omega, .inl (by omega)⟩
  | m + 1, i, h => by
    have hlt : i < ops.size := by omega
    have ho := Array.getElem?_eq_getElem hlt
    by_cases hb : isF P ops[i] = false ∧ barB P ops i = true
    · exact ⟨i, Nat.le_refl _, by omega, fun j o h1 h2 => by omega, .inr ⟨_, ho, hb.1, hb.2⟩⟩
    · obtain ⟨nb, h1, h2, h3, h4⟩ := next_bar ops m (i + 1) (by omega)
      refine ⟨nb, by omega, h2, fun j o q1 q2 q3 q4 => ?_, h4⟩
      by_cases hj : j = i
      · subst hj
        rw [ho] at q3
        obtain rfl := Option.some.inj q3
        cases hbb : barB P ops j with
        | false => rfl
        | true => exact absurd ⟨q4, hbb⟩ hb
      · exact h3 j o (by omega) q2 q3 q4
theorem Inv.runB (I : Inv P base ops T V Hs μ0 w0 X s nb μ a w) (hchk : regChk ops = true) (hF : ∀ j o, ops[j]? = some o → isF P o = true → Hs (j + 1) = Hs j) (hE : ∀ j o, ops[j]? = some o → isF P o = false → barB P ops j = true ∨ Ext (Hs j) (Hs (j + 1)))
    {o : Oper} (hr : Ready ops X nb o) (hf : isF P o = false) (hbar : barB P ops nb = true) {μ1 : Mu} {v' : Value} {w1 : World} (hv : VR μ1 (V nb) v') (hS : Sim P base μ1 (Hs (nb + 1)) w1) (hst : Step μ (Hs nb) w μ1 (Hs (nb + 1)) w1) :
    ∃ nb' μ', Inv P base ops T V Hs μ0 w0 (Xput X nb) (nb + 1) nb' μ' (a.put o.dst v') w1 := by
  have hil : nb < ops.size := (Array.getElem?_eq_some_iff.1 hr.1).1
  obtain ⟨nb', h1, h2, h3, h4⟩ := next_bar ops (ops.size - (nb + 1)) (nb + 1) (by omega)
  have hext : ∀ {i j : Nat}, nb + 1 ≤ i → i ≤ j → j ≤ nb' → Ext (Hs i) (Hs j) := fun {i j} q1 q2 q3 => by
    have := seg_ext hF hE h2 h3 (j - i) i q1 (by omega)
    rwa [show i + (j - i) = j by omega] at this
  have e := hext (Nat.le_refl _) h1 (Nat.le_refl _)
  have hsn := I.sn
  have ls := (I.ext_seg hF hE (Nat.le_refl s) hsn (Nat.le_refl _)).len
  have lb := hst.len
  have hl0 := I.len0
  refine ⟨nb', μ1, ?_⟩
  refine ⟨closed_put I.closed hr, h1, h2, h3, fun j y q1 q2 q3 => ?_, fun j y q1 q2 q3 => ?_, h4, hS.grow e, fun b k hb => hst.ext b k (I.ext b k hb), fun b k hb => .inl (hS.dom b k hb).2, ?_, ?_, fun v hv => (I.ws0 v hv).mono (by omega), I.pos0, by omega, by rw [size_put]; exact I.tl, ?_, by rw [put_defers]; exact I.defers, (I.step.trans hst).grow hS e⟩
  · by_cases hj : j = nb
    · subst hj; simp [Xput]
    · have hb := bar_spec hbar q2 q3 hj
      rw [show min nb j = j by omega, show max nb j = nb by omega] at hb
      have := closed_before hchk I.closed nb o hr.1 hr.2.2 j (by omega) hb
      simp [Xput, this]
  · have hj : j ≠ nb := by omega
    have hjl : j < ops.size := (Array.getElem?_eq_some_iff.1 q2).1
    cases hX : X j with
    | false => simp [Xput, hX, hj]
    | true =>
      have hb := bar_spec hbar q2 q3 hj
      rw [show min nb j = nb by omega, show max nb j = j by omega] at hb
      have := closed_before' hchk I.closed hjl hX hil hb
      rw [hr.2.1] at this
      cases this
  · intro j q1 q2 b k x cs v hb hbl hx hc hvm
    have hbd := (hS.dom b k hb).2
    rw [e.get hbd] at hx
    obtain ⟨u, hu⟩ := (hS.blk b k x hb hx).vals hc hvm
    exact (WS.of (fun b k hb => (hS.dom b k hb).2) hu).mono (hext (Nat.le_refl _) q1 q2).len
  · intro j hj hX
    simp only [Xput, Bool.or_eq_true, decide_eq_true_eq] at hX
    have hcl : (Hs (nb + 1)).length ≤ (Hs (clamp (nb + 1) nb' j)).length := by
      unfold clamp
      split
      · exact Nat.le_refl _
      · split
        · exact (hext (Nat.le_refl _) (by omega) (by omega)).len
        · exact (hext (Nat.le_refl _) h1 (Nat.le_refl _)).len
    rcases hX with rfl | hX
    · exact (WS.of (fun b k hb => (hS.dom b k hb).2) hv).mono hcl
    · refine (I.wsV j hj hX).mono (Nat.le_trans ?_ (Nat.le_trans lb hcl))
      unfold clamp
      split
      · exact ls
      · split
        · exact (I.ext_seg hF hE (by omega) (by omega) (Nat.le_refl _)).len
        · exact Nat.le_refl _
  · intro d hd
    rw [cur_put hchk I.closed hr, getD_put I.tl hd]
    split
    · exact hv
    · exact (I.tmps d hd).ext hst.ext
theorem ready_of {listed : Array Bool} {i : Nat} (h : i ∈ Region.ready .any ops listed) (hl : listed.size = ops.size) : ∃ o, Ready ops (fun j => listed.getD j false) i o := by
  unfold Region.ready at h
  rw [List.mem_filter] at h
  obtain ⟨h1, h2⟩ := h
  have hlt : i < ops.size := List.mem_range.1 h1
  have ho := Array.getElem?_eq_getElem hlt
  simp only [ho, Option.map_some, Option.getD_some, Bool.and_eq_true, Bool.not_eq_true', Array.all_eq_true'] at h2
  refine ⟨ops[i], ho, ?_, fun e he hb => ?_⟩
  · have := h2.1
    simp only [Array.getD_eq_getD_getElem?, Array.getElem?_eq_getElem (show i < listed.size by omega), Option.getD_some] at this ⊢
    exact this
  · have := h2.2 e he
    simpa [hb] using this
theorem ready_nil {listed : Array Bool} (h : Region.ready .any ops listed = []) (hl : listed.size = ops.size) (hchk : regChk ops = true) : ∀ i, i < ops.size → listed.getD i false = true := by
  intro i
  induction i using Nat.strongRecOn with
  | _ i ih =>
    intro hi
    cases hc : listed.getD i false with
    | true => rfl
    | false =>
      have ho := Array.getElem?_eq_getElem hi
      have hmem : i ∈ Region.ready .any ops listed := by
        unfold Region.ready
        rw [List.mem_filter]
        refine ⟨List.mem_range.2 hi, ?_⟩
        simp only [ho, Option.map_some, Option.getD_some, Bool.and_eq_true, Bool.not_eq_true', Array.all_eq_true']
        constructor
        · simp only [Array.getD_eq_getD_getElem?, Array.getElem?_eq_getElem (show i < listed.size by omega), Option.getD_some] at hc ⊢
          exact hc
        · intro e he
          cases hb : Region.binds .any e with
          | false => simp
          | true =>
            have := edges_spec hchk ho he hb
            simp [ih e.on this (by omega)]
      rw [h] at hmem
      cases hmem
theorem listed_set {listed : Array Bool} {i : Nat} (hi : i < listed.size) : (fun j => (listed.setIfInBounds i true).getD j false) = Xput (fun j => listed.getD j false) i := by
  funext j
  simp only [Xput, Array.getD_eq_getD_getElem?, Array.getElem?_setIfInBounds]
  by_cases h : i = j
  · subst h; simp [hi]
  · have : j ≠ i := fun e => h e.symm
    simp [h, this]
def unrun (n : Nat) (X : Nat → Bool) : Nat := ((List.range n).filter fun i => !X i).length
theorem unrun_put {n : Nat} {X : Nat → Bool} {i : Nat} (hi : i < n) (hX : X i = false) : unrun n (Xput X i) + 1 ≤ unrun n X := by
  unfold unrun
  have : ∀ (l : List Nat), l.Nodup → (l.filter fun j => !Xput X i j).length + (if i ∈ l then 1 else 0) = (l.filter fun j => !X j).length := by
    intro l hl
    induction l with
    | nil => rfl
    | cons a l ih =>
      rw [List.nodup_cons] at hl
      have ih := ih hl.2
      by_cases hai : a = i
      · subst hai
        rw [if_neg hl.1] at ih
        simp only [List.filter_cons, Xput, decide_true, Bool.true_or, Bool.not_true, hX, Bool.not_false, List.mem_cons, true_or, if_true]
        simp only [Xput, Bool.not_or] at ih
        simp
        omega
      · have hm : (i ∈ a :: l) ↔ i ∈ l := by simp [Ne.symm hai]
        simp only [hm]
        have e : Xput X i a = X a := by simp [Xput, hai]
        simp only [List.filter_cons, e]
        cases X a
        · simp only [Bool.not_false, if_true, List.length_cons]; omega
        · simpa using ih
  have := this (List.range n) List.nodup_range
  rw [if_pos (List.mem_range.2 hi)] at this
  omega
theorem any_sound {Q : Exit → Act → World → Prop} (hchk : regChk ops = true) (hk : (ops.all fun o => o.op.operands.all okOperand) = true) (h : ∀ (i : Nat) (o : Oper), ops[i]? = some o → OpSound P base ops o (T i) (Hs i) (V i) (Hs (i + 1)))
    (hT : ∀ (i : Nat) (o : Oper), ops[i]? = some o → T (i + 1) = sput (T i) o.dst (V i)) (hE : ∀ j o, ops[j]? = some o → isF P o = false → barB P ops j = true ∨ Ext (Hs j) (Hs (j + 1)))
    (hQ : ∀ μ1 a1 w1, LR μ1 (T ops.size) a1.tmps.toList → a1.defers = [] → Sim P base μ1 (Hs ops.size) w1 → Step μ0 (Hs 0) w0 μ1 (Hs ops.size) w1 → Q .normal a1 w1) :
    ∀ (fuel : Nat) (listed : Array Bool) (s nb : Nat) (μ : Mu) (a : Act) (w : World), listed.size = ops.size → unrun ops.size (fun j => listed.getD j false) ≤ fuel → Inv P base ops T V Hs μ0 w0 (fun j => listed.getD j false) s nb μ a w → wpAny P .any ops Q fuel listed a w := by
  have hF : ∀ j o, ops[j]? = some o → isF P o = true → Hs (j + 1) = Hs j := fun j o ho hf => by
    rcases h j o ho with ⟨-, -, h3⟩ | ⟨-, -, -, h3⟩ | ⟨-, h2, -⟩
    · exact h3
    · exact h3
    · rw [hf] at h2; cases h2
  have fin : ∀ (listed : Array Bool) (s nb : Nat) (μ : Mu) (a : Act) (w : World), listed.size = ops.size → (∀ i, i < ops.size → listed.getD i false = true) → Inv P base ops T V Hs μ0 w0 (fun j => listed.getD j false) s nb μ a w → Q .normal a w := by
    intro listed s nb μ a w hl hall I
    have hnb : nb = ops.size := by
      rcases I.stop with h | ⟨o, h1, h2, -⟩
      · exact h
      · have := I.after nb o (Nat.le_refl _) h1 h2
        have := hall nb (Array.getElem?_eq_some_iff.1 h1).1
        simp_all
    subst hnb
    refine hQ μ a w ⟨?_, fun d v v' hv hv' => ?_⟩ I.defers I.sim I.step
    · rw [T_length hT _ (Nat.le_refl _)]; simpa using I.tl.symm
    · have hdl : d < (T 0).length := by
        have := (gsI.1 hv).1
        rwa [T_length hT _ (Nat.le_refl _)] at this
      have hvv := I.tmps d hdl
      rw [cur_congr (Y := fun j => decide (j < ops.size)) (fun j hj => by rw [hall j (wr_lt hj)]; simp [wr_lt hj]), ← T_cur hT _ (Nat.le_refl _) d hdl] at hvv
      rw [List.getD_eq_getElem?_getD, hv] at hvv
      have e2 : a.tmps[d]? = some v' := by simpa using hv'
      rw [Array.getD_eq_getD_getElem?, e2] at hvv
      exact hvv
  intro fuel
  induction fuel with
  | zero =>
    intro listed s nb μ a w hl hu I
    have hall : ∀ i, i < ops.size → listed.getD i false = true := by
      intro i hi
      cases hc : listed.getD i false with
      | true => rfl
      | false => have := unrun_put (X := fun j => listed.getD j false) hi hc; omega
    refine ⟨?_, fin listed s nb μ a w hl hall I⟩
    unfold Region.ready
    rw [List.filter_eq_nil_iff]
    intro i hi
    have := hall i (List.mem_range.1 hi)
    simp only [Array.getD_eq_getD_getElem?, Array.getElem?_eq_getElem (show i < listed.size by have := List.mem_range.1 hi; omega), Option.getD_some] at this ⊢
    simp [this]
  | succ fuel ih =>
    intro listed s nb μ a w hl hu I
    refine ⟨fun hn => fin listed s nb μ a w hl (ready_nil hn hl hchk) I, fun i hi => ?_⟩
    obtain ⟨o, hr⟩ := ready_of hi hl
    have hil : i < ops.size := (Array.getElem?_eq_some_iff.1 hr.1).1
    have hls := listed_set (listed := listed) (i := i) (by omega)
    have cont : ∀ (s' nb' : Nat) (μ' : Mu) (v' : Value) (w1 : World), Inv P base ops T V Hs μ0 w0 (Xput (fun j => listed.getD j false) i) s' nb' μ' (a.put o.dst v') w1 → wpAny P .any ops Q fuel (listed.setIfInBounds i true) (a.put o.dst v') w1 := by
      intro s' nb' μ' v' w1 I'
      refine ih _ s' nb' μ' _ w1 (by simpa using hl) ?_ (by rw [hls]; exact I')
      rw [hls]
      have := unrun_put (X := fun j => listed.getD j false) hil hr.2.1
      omega
    unfold wpOp
    simp only [hr.1, I.wanted hchk hF hE hT hr]
    have hops := I.operands hchk hk hF hE hT hr
    have mem : isF P o = false → ∀ μ1 v' w1, VR μ1 (V i) v' → Sim P base μ1 (Hs (i + 1)) w1 → Step (μ.below (Hs i).length) (Hs i) w μ1 (Hs (i + 1)) w1 → wpAny P .any ops Q fuel (listed.setIfInBounds i true) (a.put o.dst v') w1 := by
      intro hf μ1 v' w1 hv hS hst
      have hsi : s ≤ i := by
        rcases Nat.lt_or_ge i s with q | q
        · exact (Bool.false_ne_true (hr.2.1.symm.trans (I.before i o q hr.1 hf))).elim
        · exact q
      have hin : i ≤ nb := by
        rcases Nat.lt_or_ge nb i with q | q
        · rcases I.stop with h' | ⟨y, q1, q2, q3⟩
          · omega
          · have hb := bar_spec q3 hr.1 hf (by omega)
            rw [show min nb i = nb by omega, show max nb i = i by omega] at hb
            have := closed_before hchk I.closed i o hr.1 hr.2.2 nb (Array.getElem?_eq_some_iff.1 q1).1 hb
            have := I.after nb y (Nat.le_refl _) q1 q2
            simp_all
        · exact q
      by_cases heq : i = nb
      · subst heq
        have hbar : barB P ops i = true := by
          rcases I.stop with h' | ⟨y, q1, q2, q3⟩
          · omega
          · exact q3
        have hmb : μ.below (Hs i).length = μ := by
          funext b
          unfold Mu.below
          split
          · rfl
          · cases hb : μ b with
            | none => rfl
            | some k => have := (I.sim.dom b k hb).2; omega
        rw [hmb] at hst
        obtain ⟨nb', μ', I'⟩ := I.runB hchk hF hE hr hf hbar hv hS hst
        exact cont _ _ _ _ _ I'
      · obtain ⟨μ', I'⟩ := I.runM hchk hF hE hr hsi (by omega) hv hS hst
        exact cont _ _ _ _ _ I'
    have simi : isF P o = false → Sim P base (μ.below (Hs i).length) (Hs i) w ∧ ∀ x ∈ o.op.operands, VR (μ.below (Hs i).length) (sev (T i) x) (a.eval x) := by
      intro hf
      have hsi : s ≤ i := by
        rcases Nat.lt_or_ge i s with q | q
        · exact (Bool.false_ne_true (hr.2.1.symm.trans (I.before i o q hr.1 hf))).elim
        · exact q
      have hin : i ≤ nb := by
        rcases Nat.lt_or_ge nb i with q | q
        · rcases I.stop with h' | ⟨y, q1, q2, q3⟩
          · omega
          · have hb := bar_spec q3 hr.1 hf (by omega)
            rw [show min nb i = nb by omega, show max nb i = i by omega] at hb
            have := closed_before hchk I.closed i o hr.1 hr.2.2 nb (Array.getElem?_eq_some_iff.1 q1).1 hb
            have := I.after nb y (Nat.le_refl _) q1 q2
            simp_all
        · exact q
      refine ⟨I.simAt hF hE hsi hin, ?_⟩
      have ec : clampd s nb i = i := by unfold clampd; rw [if_neg (by omega)]; split <;> omega
      rw [ec] at hops
      exact hops
    rcases h i o hr.1 with ⟨h1, h2, h3⟩ | ⟨h1, h2, h3, h4⟩ | ⟨h1, h2, h3⟩
    · rw [h1]
      cases hf : isF P o with
      | true => exact cont _ _ _ undef _ (I.runF (v' := undef) hchk hr hf (by rw [h2]; exact VR.undef _) hF)
      | false => exact mem hf (μ.below (Hs i).length) undef w (by rw [h2]; exact VR.undef _) (h3 ▸ (simi hf).1) (h3 ▸ Step.refl _ _ _)
    · rw [h1]
      obtain ⟨v', hrun, hv⟩ := fop_sim h3 hops w
      refine .inl ?_
      unfold Oper.wp
      rw [hrun]
      exact cont _ _ _ _ _ (I.runF hchk hr h2 hv hF)
    · rw [h1]
      exact .inl (h3 (μ.below (Hs i).length) w a (simi h2).2 (simi h2).1 _ _ fun μ1 v' w1 hv hS hst => mem h2 μ1 v' w1 hv hS hst)
end
section
variable {P : Program} {base : Nat} {ops : Array Oper} {T : Nat → List Value} {V : Nat → Value} {Hs : Nat → SHeap} {tg : Nat → Option (Nat × Option SObj)} {μ : Mu} {w0 : World} {X : Nat → Bool} {a : Act} {w : World} {H : SHeap}
def Writes (tg : Nat → Option (Nat × Option SObj)) (j b : Nat) : Prop := ∃ x, tg j = some (b, some x)
theorem late_step (hl : ∀ (i : Nat) (o : Oper), ops[i]? = some o → LateOk P ops o (T i) (Hs i) (V i) (Hs (i + 1)) (tg i)) {i : Nat} (hi : i < ops.size) {b : Nat} (hw : ¬ Writes tg i b) : (Hs (i + 1))[b]? = (Hs i)[b]? := by
  have h := hl i _ (Array.getElem?_eq_getElem hi)
  cases ht : tg i with
  | none => rw [ht] at h; rw [h.2]
  | some by_ =>
    obtain ⟨c, y⟩ := by_
    rw [ht] at h
    obtain ⟨-, -, -, -, h5, -⟩ := h
    cases y with
    | none => rw [h5]; rfl
    | some x =>
      simp only [lateH] at h5
      have : c ≠ b := fun e => hw ⟨x, by rw [ht, e]⟩
      rw [h5, List.getElem?_set_ne this]
theorem late_len (hl : ∀ (i : Nat) (o : Oper), ops[i]? = some o → LateOk P ops o (T i) (Hs i) (V i) (Hs (i + 1)) (tg i)) : ∀ i, i ≤ ops.size → (Hs i).length = (Hs 0).length
  | 0, _ => rfl
  | i + 1, hi => by
    have ih := late_len hl i (by omega)
    have h := hl i _ (Array.getElem?_eq_getElem (show i < ops.size by omega))
    cases ht : tg i with
    | none => rw [ht] at h; rw [h.2, ih]
    | some by_ =>
      obtain ⟨c, y⟩ := by_
      rw [ht] at h
      obtain ⟨-, -, -, -, h5, -⟩ := h
      cases y with
      | none => rw [h5, ← ih]; rfl
      | some x => rw [h5]; simp [lateH, ih]
theorem late_run (hl : ∀ (i : Nat) (o : Oper), ops[i]? = some o → LateOk P ops o (T i) (Hs i) (V i) (Hs (i + 1)) (tg i)) {b : Nat} : ∀ (m i : Nat), i + m ≤ ops.size → (∀ j, i ≤ j → j < i + m → ¬ Writes tg j b) → (Hs (i + m))[b]? = (Hs i)[b]?
  | 0, i, _, _ => rfl
  | m + 1, i, h, hw => by
    have ih := late_run hl m i (by omega) fun j h1 h2 => hw j h1 (by omega)
    rw [← ih]
    exact late_step hl (show i + m < ops.size by omega) (hw (i + m) (by omega) (by omega))
structure InvL (P : Program) (base : Nat) (ops : Array Oper) (T : Nat → List Value) (V : Nat → Value) (Hs : Nat → SHeap) (tg : Nat → Option (Nat × Option SObj)) (μ : Mu) (w0 : World) (X : Nat → Bool) (a : Act) (w : World) (H : SHeap) : Prop where
  closed : Closed ops X
  size : ∀ j, X j = true → j < ops.size
  len : H.length = (Hs 0).length
  row : ∀ b, ∃ k, k ≤ ops.size ∧ (∀ j, j < k → Writes tg j b → X j = true) ∧ (∀ j, k ≤ j → Writes tg j b → X j = false) ∧ H[b]? = (Hs k)[b]?
  sim : Sim P base μ H w
  tl : a.tmps.size = (T 0).length
  tmps : ∀ d, d < (T 0).length → VR μ (cur ops V (T 0) X d) (a.tmps.getD d undef)
  defers : a.defers = []
  step : Step μ (Hs 0) w0 μ H w
theorem InvL.operand (I : InvL P base ops T V Hs tg μ w0 X a w H) (hchk : regChk ops = true) (hT : ∀ (i : Nat) (o : Oper), ops[i]? = some o → T (i + 1) = sput (T i) o.dst (V i)) {i : Nat} {o : Oper} (hr : Ready ops X i o) {d : Tmp} (hd : d ∈ o.looksAt ops) :
    VR μ ((T i).getD d undef) (a.tmps.getD d undef) := by
  have hil : i < ops.size := (Array.getElem?_eq_some_iff.1 hr.1).1
  by_cases hdl : @LT.lt Nat _ d (T 0).length
  · rw [T_cur hT i (by omega) d hdl, ← cur_ready hchk I.closed hr (.inl hd)]
    exact I.tmps d hdl
  · have h1 : (T i).getD d undef = undef := by
      rw [List.getD_eq_getElem?_getD, List.getElem?_eq_none (by rw [T_length hT i (by omega)]; omega)]
      rfl
    have h2 : a.tmps.getD d undef = undef := by
      have := I.tl
      rw [Array.getD_eq_getD_getElem?, Array.getElem?_eq_none (by omega)]
      rfl
    rw [h1, h2]
    exact VR.undef _
theorem InvL.operands (I : InvL P base ops T V Hs tg μ w0 X a w H) (hchk : regChk ops = true) (hk : (ops.all fun o => o.op.operands.all okOperand) = true) (hT : ∀ (i : Nat) (o : Oper), ops[i]? = some o → T (i + 1) = sput (T i) o.dst (V i)) {i : Nat} {o : Oper} (hr : Ready ops X i o) :
    ∀ x ∈ o.op.operands, VR μ (sev (T i) x) (a.eval x) := by
  intro x hx
  obtain ⟨hlt, ho⟩ := Array.getElem?_eq_some_iff.1 hr.1
  cases x with
  | tmp d =>
    have : d ∈ o.looksAt ops := by
      unfold Oper.looksAt
      exact List.mem_append_left _ (List.mem_filterMap.2 ⟨.tmp d, by simpa using hx, rfl⟩)
    exact I.operand hchk hT hr this
  | const v =>
    have h1 := Array.all_eq_true.1 hk i hlt
    rw [ho] at h1
    exact flat_refl _ (Array.all_eq_true'.1 h1 _ hx)
  | global g => exact .glob g
  | func f => exact .func _ rfl (fun i v v' h => by simp at h) rfl (fun i v v' h => by simp at h)
theorem InvL.wanted (I : InvL P base ops T V Hs tg μ w0 X a w H) (hchk : regChk ops = true) (hT : ∀ (i : Nat) (o : Oper), ops[i]? = some o → T (i + 1) = sput (T i) o.dst (V i)) {i : Nat} {o : Oper} (hr : Ready ops X i o) :
    Region.wanted o (yielded ops a.tmps) = Region.wanted o (syielded ops (T i)) := by
  have hil : i < ops.size := (Array.getElem?_eq_some_iff.1 hr.1).1
  refine wanted_congr fun j b hg => ?_
  unfold yielded syielded
  cases hd : (ops[j]?).bind (·.dst) with
  | none => rfl
  | some d =>
    have hmem : d ∈ o.looksAt ops := by
      unfold Oper.looksAt
      refine List.mem_append_right _ ?_
      simp only [hg, hd]
      simp
    have hv := I.operand hchk hT hr hmem
    simp only [Option.bind_some]
    have hTl := T_length hT i (by omega)
    by_cases hdl : @LT.lt Nat _ d (T 0).length
    · have e1 : (T i)[d]? = some ((T i).getD d undef) := by
        rw [List.getD_eq_getElem?_getD, gtE (by omega)]
        rfl
      have e2 : a.tmps[d]? = some (a.tmps.getD d undef) := by
        have := I.tl
        rw [Array.getD_eq_getD_getElem?, Array.getElem?_eq_getElem (by omega)]
        rfl
      rw [e1, e2]
      exact hv.boolOf.symm
    · have e1 : (T i)[d]? = none := List.getElem?_eq_none (by omega)
      have e2 : a.tmps[d]? = none := Array.getElem?_eq_none (by have := I.tl; omega)
      rw [e1, e2]
theorem InvL.put (I : InvL P base ops T V Hs tg μ w0 X a w H) (hchk : regChk ops = true) {i : Nat} {o : Oper} (hr : Ready ops X i o) {v' : Value} {w1 : World} {H1 : SHeap} (hlen : H1.length = H.length) (hwr : ∀ b, Writes tg i b → H1[b]? = (Hs (i + 1))[b]? ∧ (∀ j, j < i → Writes tg j b → X j = true) ∧ ∀ j, i < j → Writes tg j b → X j = false)
    (hot : ∀ b, ¬ Writes tg i b → H1[b]? = H[b]?) (hv : VR μ (V i) v') (hS : Sim P base μ H1 w1) (hst : Step μ H w μ H1 w1) : InvL P base ops T V Hs tg μ w0 (Xput X i) (a.put o.dst v') w1 H1 := by
  have hil : i < ops.size := (Array.getElem?_eq_some_iff.1 hr.1).1
  refine ⟨closed_put I.closed hr, fun j hj => ?_, by rw [hlen, I.len], fun b => ?_, hS, by rw [size_put]; exact I.tl, fun d hd => ?_, by rw [put_defers]; exact I.defers, I.step.trans hst⟩
  · simp only [Xput, Bool.or_eq_true, decide_eq_true_eq] at hj
    rcases hj with rfl | hj
    · exact hil
    · exact I.size j hj
  · by_cases hw : Writes tg i b
    · obtain ⟨q1, q2, q3⟩ := hwr b hw
      refine ⟨i + 1, by omega, fun j hj hwj => ?_, fun j hj hwj => ?_, q1⟩
      · by_cases hji : j = i
        · subst hji; simp [Xput]
        · simp [Xput, q2 j (by omega) hwj]
      · have : j ≠ i := by omega
        simp [Xput, q3 j (by omega) hwj, this]
    · obtain ⟨k, k1, k2, k3, k4⟩ := I.row b
      refine ⟨k, k1, fun j hj hwj => by simp [Xput, k2 j hj hwj], fun j hj hwj => ?_, by rw [hot b hw]; exact k4⟩
      have : j ≠ i := fun e => hw (e ▸ hwj)
      simp [Xput, k3 j hj hwj, this]
  · rw [cur_put hchk I.closed hr, getD_put I.tl hd]
    split
    · exact hv
    · exact I.tmps d hd
theorem mu_same {μ1 : Mu} {H1 : SHeap} {w1 : World} (hS : Sim P base μ1 H1 w1) (hst : Step μ H w μ1 H1 w1) (hlen : H1.length = H.length) : μ1 = μ := by
  funext b
  cases h : μ1 b with
  | none =>
    cases h' : μ b with
    | none => rfl
    | some k => rw [hst.ext b k h'] at h; cases h
  | some k =>
    rcases hst.new b k h with h' | h'
    · exact h'.symm
    · have := (hS.dom b k h).2; omega
theorem late_sound {Q : Exit → Act → World → Prop} (hchk : regChk ops = true) (hk : (ops.all fun o => o.op.operands.all okOperand) = true) (h : ∀ (i : Nat) (o : Oper), ops[i]? = some o → OpSound P base ops o (T i) (Hs i) (V i) (Hs (i + 1)))
    (hT : ∀ (i : Nat) (o : Oper), ops[i]? = some o → T (i + 1) = sput (T i) o.dst (V i)) (hl : ∀ (i : Nat) (o : Oper), ops[i]? = some o → LateOk P ops o (T i) (Hs i) (V i) (Hs (i + 1)) (tg i))
    (hdj : ∀ (i j : Nat) (b : Nat) (x : SObj) (y : Option SObj), tg i = some (b, some x) → tg j = some (b, y) → i ≠ j → barB P ops i = true ∨ barB P ops j = true)
    (htg : ∀ j, ops.size ≤ j → tg j = none) (hQ : ∀ μ1 a1 w1, LR μ1 (T ops.size) a1.tmps.toList → a1.defers = [] → Sim P base μ1 (Hs ops.size) w1 → Step μ (Hs 0) w0 μ1 (Hs ops.size) w1 → Q .normal a1 w1) :
    ∀ (fuel : Nat) (listed : Array Bool) (a : Act) (w : World) (H : SHeap), listed.size = ops.size → unrun ops.size (fun j => listed.getD j false) ≤ fuel → InvL P base ops T V Hs tg μ w0 (fun j => listed.getD j false) a w H → wpAny P .any ops Q fuel listed a w := by
  have fin : ∀ (listed : Array Bool) (a : Act) (w : World) (H : SHeap), listed.size = ops.size → (∀ i, i < ops.size → listed.getD i false = true) → InvL P base ops T V Hs tg μ w0 (fun j => listed.getD j false) a w H → Q .normal a w := by
    intro listed a w H hls hall I
    have hH : H = Hs ops.size := by
      apply List.ext_getElem?
      intro b
      obtain ⟨k, k1, k2, k3, k4⟩ := I.row b
      have := late_run hl (b := b) (ops.size - k) k (by omega) fun j h1 h2 hw => by
        have h3 := k3 j h1 hw
        rw [hall j (by omega)] at h3
        cases h3
      rw [show k + (ops.size - k) = ops.size by omega] at this
      rw [k4, this]
    subst hH
    refine hQ μ a w ⟨?_, fun d v v' hv hv' => ?_⟩ I.defers I.sim I.step
    · rw [T_length hT _ (Nat.le_refl _)]; simpa using I.tl.symm
    · have hdl : d < (T 0).length := by
        have := (gsI.1 hv).1
        rwa [T_length hT _ (Nat.le_refl _)] at this
      have hvv := I.tmps d hdl
      rw [cur_congr (Y := fun j => decide (j < ops.size)) (fun j hj => by rw [hall j (wr_lt hj)]; simp [wr_lt hj]), ← T_cur hT _ (Nat.le_refl _) d hdl] at hvv
      rw [List.getD_eq_getElem?_getD, hv] at hvv
      have e2 : a.tmps[d]? = some v' := by simpa using hv'
      rw [Array.getD_eq_getD_getElem?, e2] at hvv
      exact hvv
  intro fuel
  induction fuel with
  | zero =>
    intro listed a w H hls hu I
    have hall : ∀ i, i < ops.size → listed.getD i false = true := by
      intro i hi
      cases hc : listed.getD i false with
      | true => rfl
      | false => have := unrun_put (X := fun j => listed.getD j false) hi hc; omega
    refine ⟨?_, fin listed a w H hls hall I⟩
    unfold Region.ready
    rw [List.filter_eq_nil_iff]
    intro i hi
    have := hall i (List.mem_range.1 hi)
    simp only [Array.getD_eq_getD_getElem?, Array.getElem?_eq_getElem (show i < listed.size by have := List.mem_range.1 hi; omega), Option.getD_some] at this ⊢
    simp [this]
  | succ fuel ih =>
    intro listed a w H hls hu I
    refine ⟨fun hn => fin listed a w H hls (ready_nil hn hls hchk) I, fun i hi => ?_⟩
    obtain ⟨o, hr⟩ := ready_of hi hls
    have hil : i < ops.size := (Array.getElem?_eq_some_iff.1 hr.1).1
    have hset := listed_set (listed := listed) (i := i) (by omega)
    have cont : ∀ (v' : Value) (w1 : World) (H1 : SHeap), InvL P base ops T V Hs tg μ w0 (Xput (fun j => listed.getD j false) i) (a.put o.dst v') w1 H1 → wpAny P .any ops Q fuel (listed.setIfInBounds i true) (a.put o.dst v') w1 := by
      intro v' w1 H1 I'
      refine ih _ _ w1 H1 (by simpa using hls) ?_ (by rw [hset]; exact I')
      rw [hset]
      have := unrun_put (X := fun j => listed.getD j false) hil hr.2.1
      omega
    have hops := I.operands hchk hk hT hr
    have hwant := I.wanted hchk hT hr
    have hlate := hl i o hr.1
    unfold wpOp
    simp only [hr.1, hwant]
    cases ht : tg i with
    | none =>
      rw [ht] at hlate
      obtain ⟨hq, hHe⟩ := hlate
      have quiet : ∀ v', VR μ (V i) v' → InvL P base ops T V Hs tg μ w0 (Xput (fun j => listed.getD j false) i) (a.put o.dst v') w H := fun v' hv =>
        I.put hchk hr rfl (fun b hb => by obtain ⟨x, hx⟩ := hb; rw [ht] at hx; cases hx) (fun b _ => rfl) hv I.sim (Step.refl _ _ _)
      rcases h i o hr.1 with ⟨h1, h2, h3⟩ | ⟨h1, h2, h3, h4⟩ | ⟨h1, h2, h3⟩
      · rw [h1]
        exact cont undef w H (quiet undef (by rw [h2]; exact VR.undef _))
      · rw [h1]
        obtain ⟨v', hrun, hv⟩ := fop_sim h3 hops w
        refine .inl ?_
        unfold Oper.wp
        rw [hrun]
        exact cont v' w H (quiet v' hv)
      · rcases hq with q | q
        · rw [h1] at q; cases q
        · rw [h2] at q; cases q
    | some by_ =>
      obtain ⟨b, y⟩ := by_
      rw [ht] at hlate
      obtain ⟨h1, h2, h3, h4, h5, h6⟩ := hlate
      rw [h1]
      have hord : ∀ j, j ≠ i → Writes tg j b → before? (Region.before ops) (min j i) (max j i) = true := fun j hj ⟨x, hx⟩ => by
        have hjl : j < ops.size := by
          rcases Nat.lt_or_ge j ops.size with q | q
          · exact q
          · exact absurd hx (by rw [htg j q]; simp)
        have hoj := Array.getElem?_eq_getElem hjl
        have hlj := hl j _ hoj
        rw [hx] at hlj
        rcases hdj j i b x y hx ht hj with q | q
        · exact bar_spec q hr.1 h2 (Ne.symm hj)
        · have := bar_spec q hoj hlj.2.1 hj
          rw [Nat.min_comm, Nat.max_comm]
          exact this
      have hlo : ∀ j, j < i → Writes tg j b → listed.getD j false = true := fun j hj hw => by
        have h0 := hord j (by omega) hw
        rw [show min j i = j by omega, show max j i = i by omega] at h0
        exact closed_before hchk I.closed i o hr.1 hr.2.2 j (by omega) h0
      have hhi : ∀ j, i < j → Writes tg j b → listed.getD j false = false := fun j hj hw => by
        have h0 := hord j (by omega) hw
        rw [show min j i = i by omega, show max j i = j by omega] at h0
        cases hX : listed.getD j false with
        | false => rfl
        | true =>
          have := closed_before' hchk I.closed (I.size j hX) hX hil h0
          exact absurd (hr.2.1.symm.trans this) Bool.false_ne_true
      have hHb : H[b]? = (Hs i)[b]? := by
        obtain ⟨k, k1, k2, k3, k4⟩ := I.row b
        rw [k4]
        rcases Nat.le_total k i with hki | hki
        · have := late_run hl (b := b) (i - k) k (by omega) fun j q1 q2 hw => by
            have e1 := k3 j q1 hw
            have e2 := hlo j (by omega) hw
            exact Bool.false_ne_true (e1.symm.trans e2)
          rw [show k + (i - k) = i by omega] at this
          exact this.symm
        · have := late_run hl (b := b) (k - i) i (by omega) fun j q1 q2 hw => by
            have e1 := k2 j (by omega) hw
            by_cases hji : j = i
            · subst hji; exact Bool.false_ne_true (hr.2.1.symm.trans e1)
            · exact Bool.false_ne_true ((hhi j (by omega) hw).symm.trans e1)
          rw [show i + (k - i) = k by omega] at this
          exact this
      have hm := h6 H hHb
      obtain ⟨μ1, v', w1, hrun, hv, hS1, hst⟩ := mop_sim hm I.sim hops
      have hlen : (lateH H b y).length = H.length := by cases y <;> simp [lateH]
      obtain rfl := mu_same hS1 hst hlen
      have hbl : b < H.length := by rw [I.len, ← late_len hl i (by omega)]; exact h3
      have fin2 : InvL P base ops T V Hs tg μ1 w0 (Xput (fun j => listed.getD j false) i) (a.put o.dst v') w1 (lateH H b y) := by
        refine I.put hchk hr hlen (fun c hc => ?_) (fun c hc => ?_) hv hS1 hst
        · obtain ⟨x, hx⟩ := hc
          rw [ht] at hx
          simp only [Option.some.injEq, Prod.mk.injEq] at hx
          obtain ⟨rfl, rfl⟩ := hx
          refine ⟨?_, hlo, hhi⟩
          simp only [lateH] at h5 ⊢
          rw [List.getElem?_set_self hbl, h5, List.getElem?_set_self h3]
        · cases y with
          | none => rfl
          | some x =>
            have : b ≠ c := fun e => hc ⟨x, by rw [ht, e]⟩
            simp only [lateH]
            rw [List.getElem?_set_ne this]
      refine .inl ?_
      unfold Oper.wp
      rcases hrun with hrun | ⟨hrun, rfl⟩
      · rw [hrun]; exact cont v' w1 _ fin2
      · rw [hrun]; exact cont undef w1 _ fin2
end
section
variable {P : Program} {base : Nat}
def resRun (tmps : Array Value) : ResultVar → Sem Value
  | .tmp t => pure (tmps.getD t undef)
  | .cell a t => do loadVar t (← asAddr (tmps.getD a undef))
theorem rvs_sim {μ : Mu} {H : SHeap} {w : World} {t : List Value} {a : Act} (hL : LR μ t a.tmps.toList) (hS : Sim P base μ H w) {rs : List ResultVar} {vs : List Value} (h : RVs P t H rs vs) : ∃ vs', (rs.mapM (resRun a.tmps)).run P w = .ok vs' w ∧ LR μ vs vs' := by
  have getv : ∀ i, VR μ (t.getD i undef) (a.tmps.getD i undef) := fun i => sev_sim (x := .tmp i) hL rfl
  induction h with
  | nil => exact ⟨[], by simp, LR.nil μ⟩
  | tmp hs ih =>
    rename_i i rs vs
    obtain ⟨vs', h1, h2⟩ := ih
    exact ⟨_ :: vs', by simp [List.mapM_cons, resRun, h1], (LR.cons (getv i) h2)⟩
  | cell1 ha hx hX hc hv hs ih =>
    rename_i r ty b i X cs v rs vs
    obtain ⟨vs', h1, h2⟩ := ih
    obtain ⟨k, hk, he⟩ := (hx ▸ getv r).ptr_inv
    obtain ⟨u, q1, q2⟩ := hS.cell hk hX hc hv
    exact ⟨u :: vs', by simp [List.mapM_cons, resRun, he, asAddr, loadVar, run_isAgg? ha, q1, h1], LR.cons q2 h2⟩
  | cellA ha hn hx hX hc hfit hs ih =>
    rename_i r ty b i n X cs rs vs
    obtain ⟨vs', h1, h2⟩ := ih
    obtain ⟨k, hk, he⟩ := (hx ▸ getv r).ptr_inv
    obtain ⟨us, hl, hcell, hr⟩ := hS.cells hk hX hc hfit
    have hrun := run_loadCells_list (P := P) w ⟨k.g, k.o + i, none⟩ us hcell
    rw [hl] at hrun
    exact ⟨.agg us.toArray :: vs', by simp [List.mapM_cons, resRun, he, asAddr, loadVar, run_isAgg? ha, run_sizeOf? hn, hrun, h1], LR.cons (.agg hr.toArray.1 hr.toArray.2) h2⟩
theorem results_sim {μ : Mu} {H : SHeap} {w : World} {t : List Value} {a : Act} {fn : Func} (hL : LR μ t a.tmps.toList) (hS : Sim P base μ H w) {vs : List Value} (h : RVs P t H fn.results.toList vs) : ∃ v', (results fn a.tmps).run P w = .ok v' w ∧ VR μ (retOf vs) v' := by
  obtain ⟨vs', h1, h2⟩ := rvs_sim hL hS h
  have e : (fn.results.mapM (resRun a.tmps)).run P w = .ok vs'.toArray w := by
    rw [Array.mapM_eq_mapM_toList]
    simp [h1]
  have e2 : (results fn a.tmps).run P w = .ok (if h : vs'.toArray.size = 1 then vs'.toArray[0] else .tuple vs'.toArray) w := by
    have : results fn a.tmps = (do let vs ← fn.results.mapM (resRun a.tmps); pure (if h : vs.size = 1 then vs[0] else .tuple vs)) := rfl
    rw [this]
    simp [e]
  refine ⟨_, e2, ?_⟩
  have hl := h2.1
  unfold retOf
  match vs, vs', hl, h2 with
  | [], [], _, h2 => exact .tuple rfl h2.toArray.2
  | [v], [v'], _, h2 => exact h2.2 0 v v' rfl rfl
  | v :: v2 :: vs, u :: u2 :: us, _, h2 =>
    have : ¬ ((u :: u2 :: us).toArray.size = 1) := by simp
    rw [dif_neg this]
    exact .tuple h2.toArray.1 h2.toArray.2
def Rnd (P : Program) (base : Nat) (c : Code) (e : SExit) (t' : List Value) (H' : SHeap) : Nat → List Value → SHeap → Prop
  | 0, t, H => Sound P base (.code c t H) (.code e t' H') ∧ e ≠ .normal
  | n + 1, t, H => ∃ t1 H1, Sound P base (.code c t H) (.code .normal t1 H1) ∧ Rnd P base c e t' H' n t1 H1
theorem loop_sound {c : Code} {e : SExit} {t t' : List Value} {H H' : SHeap} {n : Nat} (h : Rnd P base c e t' H' n t H) : Sound P base (.code (.loop c) t H) (.code e t' H') := by
  intro μ w a hL hdf hS Q hQ
  refine wp_loop_ghost (fun m a1 w1 => ∃ μ1 t1 H1, LR μ1 t1 a1.tmps.toList ∧ a1.defers = [] ∧ Sim P base μ1 H1 w1 ∧ Step μ H w μ1 H1 w1 ∧ Rnd P base c e t' H' m t1 H1) n ⟨μ, t, H, hL, hdf, hS, Step.refl _ _ _, h⟩ ?_
  rintro m a1 w1 ⟨μ1, t1, H1, hL1, hdf1, hS1, hst1, hr⟩
  cases m with
  | zero =>
    obtain ⟨hs, hne⟩ := hr
    refine hs μ1 w1 a1 hL1 hdf1 hS1 _ fun μ2 a2 w2 hL2 hdf2 hS2 hst2 => ?_
    have := hQ μ2 a2 w2 hL2 hdf2 hS2 (hst1.trans hst2)
    cases e with
    | normal => exact absurd rfl hne
    | exit id => exact this
    | ret => exact this
  | succ m =>
    obtain ⟨t2, H2, hs, hr⟩ := hr
    refine hs μ1 w1 a1 hL1 hdf1 hS1 _ fun μ2 a2 w2 hL2 hdf2 hS2 hst2 => ?_
    exact ⟨m, Nat.lt_succ_self m, μ2, t2, H2, hL2, hdf2, hS2, hst1.trans hst2, hr⟩
def LoopS (P : Program) (base : Nat) : Job → Out → Prop
  | .code (.loop c) t H, .code e t' H' => ∃ n, Rnd P base c e t' H' n t H
  | _, _ => True
theorem run_sound' (hm : P.follows .mixedOrders = true) {j : Job} {o : Out} (h : Run P j o) : Sound P base j o ∧ LoopS P base j o := by
  induction h with
  | skip => exact ⟨fun μ w a hL hdf hS Q hQ => wp_skip (hQ μ a w hL hdf hS (Step.refl _ _ _)), trivial⟩
  | ret => exact ⟨fun μ w a hL hdf hS Q hQ => wp_ret (hQ μ a w hL hdf hS (Step.refl _ _ _)), trivial⟩
  | exit => exact ⟨fun μ w a hL hdf hS Q hQ => wp_exit (hQ μ a w hL hdf hS (Step.refl _ _ _)), trivial⟩
  | seqN h1 h2 ih1 ih2 =>
    refine ⟨fun μ w a hL hdf hS Q hQ => wp_seq (ih1.1 μ w a hL hdf hS _ fun μ1 a1 w1 hL1 hdf1 hS1 hst1 => ?_), trivial⟩
    exact ih2.1 μ1 w1 a1 hL1 hdf1 hS1 Q fun μ2 a2 w2 hL2 hdf2 hS2 hst2 => hQ μ2 a2 w2 hL2 hdf2 hS2 (hst1.trans hst2)
  | seqE h1 he ih1 =>
    rename_i a0 b0 t t1 H H1 e
    refine ⟨fun μ w a hL hdf hS Q hQ => wp_seq (ih1.1 μ w a hL hdf hS _ fun μ1 a1 w1 hL1 hdf1 hS1 hst1 => ?_), trivial⟩
    have := hQ μ1 a1 w1 hL1 hdf1 hS1 hst1
    cases e with
    | normal => exact absurd rfl he
    | exit id => exact this
    | ret => exact this
  | cond hc hk h ih =>
    rename_i c x y b t t1 H H1 e
    refine ⟨fun μ w a hL hdf hS Q hQ => ?_, trivial⟩
    have hv := sev_sim hL hk
    rw [hc] at hv
    exact wp_cond hv.bool_inv (ih.1 μ w a hL hdf hS Q hQ)
  | block h ih =>
    rename_i id c t t1 H H1 e
    refine ⟨fun μ w a hL hdf hS Q hQ => wp_block (ih.1 μ w a hL hdf hS _ fun μ1 a1 w1 hL1 hdf1 hS1 hst1 => ?_), trivial⟩
    have := hQ μ1 a1 w1 hL1 hdf1 hS1 hst1
    cases e with
    | normal => simpa [SExit.real, Exit.inBlock] using this
    | exit id' =>
      by_cases hi : id' = id
      · subst hi; simpa [SExit.real, Exit.inBlock] using this
      · simpa [SExit.real, Exit.inBlock, hi] using this
    | ret => simpa [SExit.real, Exit.inBlock] using this
  | loopN h1 h2 ih1 ih2 =>
    obtain ⟨n, hr⟩ := ih2.2
    have : Rnd P base _ _ _ _ (n + 1) _ _ := ⟨_, _, ih1.1, hr⟩
    exact ⟨loop_sound this, n + 1, this⟩
  | loopE h1 he ih1 =>
    have : Rnd P base _ _ _ _ 0 _ _ := ⟨ih1.1, he⟩
    exact ⟨loop_sound this, 0, this⟩
  | region T V Hs hk h hT hd ih =>
    rename_i id ops draw
    have hops : ∀ (i : Nat) (o : Oper), ops[i]? = some o → OpSound P base ops o (T i) (Hs i) (V i) (Hs (i + 1)) := fun i o ho => (ih i o ho).1
    refine ⟨fun μ w a hL hdf hS Q hQ => ?_, trivial⟩
    cases draw with
    | false =>
      refine wp_region ?_
      rw [List.range_eq_range']
      exact ops_sound hk hops hT (fun μ1 a1 w1 q1 q2 q3 q4 => hQ μ1 a1 w1 q1 q2 q3 q4) ops.size 0 (by omega) μ a w hL hdf hS (Step.refl _ _ _)
    | true =>
      obtain ⟨hchk, hE⟩ := hd rfl
      refine wp_region_any hm ?_
      obtain ⟨nb, h1, h2, h3, h4⟩ := next_bar ops ops.size 0 (by omega)
      have hS' : Sim P base μ (Hs 0) { w with drawn := w.drawn + 1 } := hS.heap rfl
      have hF : ∀ j o, ops[j]? = some o → isF P o = true → Hs (j + 1) = Hs j := fun j o ho hf => by
        rcases hops j o ho with ⟨-, -, h3⟩ | ⟨-, -, -, h3⟩ | ⟨-, h2, -⟩
        · exact h3
        · exact h3
        · rw [hf] at h2; cases h2
      have hext : Ext (Hs 0) (Hs nb) := by
        have := seg_ext hF hE h2 h3 nb 0 (Nat.zero_le _) (by omega)
        simpa using this
      have hfalse : ∀ j, (Array.replicate ops.size false).getD j false = false := fun j => by
        simp only [Array.getD_eq_getD_getElem?, Array.getElem?_replicate]
        split <;> rfl
      refine any_sound (V := V) (μ0 := μ) (w0 := w) hchk hk hops hT hE (fun μ1 a1 w1 q1 q2 q3 q4 => hQ μ1 a1 w1 q1 q2 q3 q4) ops.size (Array.replicate ops.size false) 0 nb μ a _ (by simp) (by unfold unrun; exact Nat.le_trans (List.length_filter_le _ _) (by simp)) ?_
      refine ⟨(fun i o e hX => by rw [hfalse] at hX; cases hX), h1, h2, h3, (fun j o hj => by omega), fun j o _ _ _ => hfalse j, h4, hS'.grow hext, fun b k hb => hb, fun b k hb => .inl (hS.dom b k hb).2, ?_, (fun j _ hX => by rw [hfalse] at hX; cases hX), fun v hv => ?_, hS.pos, Nat.le_refl _, by simpa using hL.1.symm, ?_, hdf, ?_⟩
      · intro j q1 q2 b k x cs v hb hbl hx hc hv
        have hbd := (hS.dom b k hb).2
        rw [hext.get hbd] at hx
        obtain ⟨u, hu⟩ := (hS.blk b k x hb hx).vals hc hv
        have hlen : (Hs 0).length ≤ (Hs j).length := by
          have := (seg_ext hF hE h2 h3 j 0 (Nat.zero_le _) (by omega)).len
          simpa using this
        exact (WS.of (fun b k hb => (hS.dom b k hb).2) hu).mono hlen
      · obtain ⟨i, hi⟩ := List.getElem?_of_mem hv
        obtain ⟨u, -, hu⟩ := hL.get hi
        exact WS.of (fun b k hb => (hS.dom b k hb).2) hu
      · intro d hd
        rw [cur_none (fun j hX => by rw [hfalse] at hX; cases hX)]
        exact sev_sim (x := .tmp d) hL rfl
      · have := (Step.drawn μ (Hs 0) w (w.drawn + 1)).grow hS' hext
        exact this
  | regionL T V Hs tg hk h hT hchk hl hd htg ih =>
    rename_i id ops draw
    have hops : ∀ (i : Nat) (o : Oper), ops[i]? = some o → OpSound P base ops o (T i) (Hs i) (V i) (Hs (i + 1)) := fun i o ho => (ih i o ho).1
    refine ⟨fun μ w a hL hdf hS Q hQ => ?_, trivial⟩
    cases draw with
    | false =>
      refine wp_region ?_
      rw [List.range_eq_range']
      exact ops_sound hk hops hT (fun μ1 a1 w1 q1 q2 q3 q4 => hQ μ1 a1 w1 q1 q2 q3 q4) ops.size 0 (by omega) μ a w hL hdf hS (Step.refl _ _ _)
    | true =>
      refine wp_region_any hm ?_
      have hS' : Sim P base μ (Hs 0) { w with drawn := w.drawn + 1 } := hS.heap rfl
      have hfalse : ∀ j, (Array.replicate ops.size false).getD j false = false := fun j => by
        simp only [Array.getD_eq_getD_getElem?, Array.getElem?_replicate]
        split <;> rfl
      refine late_sound (V := V) (μ := μ) (w0 := w) hchk hk hops hT hl hd htg (fun μ1 a1 w1 q1 q2 q3 q4 => hQ μ1 a1 w1 q1 q2 q3 q4) ops.size (Array.replicate ops.size false) a _ (Hs 0) (by simp) (by unfold unrun; exact Nat.le_trans (List.length_filter_le _ _) (by simp)) ?_
      refine ⟨(fun i o e hX => by rw [hfalse] at hX; cases hX), (fun j hX => by rw [hfalse] at hX; cases hX), rfl, (fun b => ⟨0, Nat.zero_le _, fun j hj => absurd hj (Nat.not_lt_zero j), fun j _ _ => hfalse j, rfl⟩), hS', by simpa using hL.1.symm, ?_, hdf, Step.drawn μ (Hs 0) w (w.drawn + 1)⟩
      intro d hd
      rw [cur_none (fun j hX => by rw [hfalse] at hX; cases hX)]
      exact sev_sim (x := .tmp d) hL rfl
  | opSkip hw => exact ⟨.inl ⟨hw, rfl, rfl⟩, trivial⟩
  | opF hw hF h => exact ⟨.inr (.inl ⟨hw, hF, h, rfl⟩), trivial⟩
  | opM hw hF h =>
    refine ⟨.inr (.inr ⟨hw, hF, fun μ w a hop hS K Q hK => ?_⟩), trivial⟩
    obtain ⟨μ1, v', w1, hr, hv, hS1, hst⟩ := mop_sim h hS hop
    unfold Oper.wp
    rcases hr with hr | ⟨hr, rfl⟩
    · rw [hr]; exact hK μ1 v' w1 hv hS1 hst
    · rw [hr]; exact hK μ1 undef w1 hv hS1 hst
  | opC hw hF ho hf hg hn hb h ih =>
    rename_i ops o t H H1 v f args ats g first cap fn
    refine ⟨.inr (.inr ⟨hw, hF, fun μ w a hop hS K Q hK => ?_⟩), trivial⟩
    have hfv := hop f (by simp [ho, Op.operands, Call.operands])
    rw [hf] at hfv
    obtain ⟨first', cap', he, h1, h2⟩ : ∃ first' cap', a.eval f = .func (.func g) first' cap' ∧ AR μ first first' ∧ AR μ cap cap' := by
      generalize a.eval f = u at hfv
      cases hfv with
      | func _ hl hh hl' hh' => exact ⟨_, _, rfl, ⟨hl, hh⟩, hl', hh'⟩
    have hargs : LR μ (args.toList.map (sev t)) (args.toList.map a.eval) := by
      refine ⟨by simp, fun i u u' hu hu' => ?_⟩
      simp only [List.getElem?_map, Option.map_eq_some_iff] at hu hu'
      obtain ⟨x, hx, rfl⟩ := hu
      obtain ⟨y, hy, rfl⟩ := hu'
      rw [hx] at hy
      obtain rfl := Option.some.inj hy
      exact hop x (by simp [ho, Op.operands, Call.operands]; exact .inr (by simpa using List.mem_of_getElem? hx))
    have hrun : (execOp a.eval o).run P w = .ok (.enter g (first' ++ args.map a.eval ++ cap')) w := by
      have hbn : ¬ fn.body = none := fun e => by rw [e] at hb; cases hb
      have hn' : ¬ fn.name = "runtime.NumGoroutine" := by simpa using hn
      simp [execOp, ho, resolve, he, Deferred.ofValue, invoke, callFunc, hg, hn', hbn]
    unfold Oper.wp
    rw [hrun, Oper.upon_enter]
    have hLL : LR μ (first.toList ++ args.toList.map (sev t) ++ cap.toList) (first' ++ args.map a.eval ++ cap').toList := by
      have := (h1.toList.append hargs).append h2.toList
      simpa using this
    refine (ih.1 μ w _ hLL hS).mono fun e w' hh => ?_
    obtain ⟨v', μ1, rfl, hv, hS1, hst⟩ := hh
    exact hK μ1 v' w' hv hS1 hst
  | call hf hb h he hr ih =>
    rename_i f fn c args t1 vs H H1 e
    refine ⟨fun μ w args' hL hS => ?_, trivial⟩
    refine calls_of_wp hf hb (ih.1 μ w _ ?_ rfl hS _ fun μ1 a1 w1 hL1 hdf1 hS1 hst1 => ?_)
    · have hl : args.length = args'.size := by simpa using hL.1
      have := hL.append (LR.replicate μ (fn.ntmps - args.length))
      rw [hl] at this ⊢
      simpa using this
    · obtain ⟨v', q1, q2⟩ := results_sim hL1 hS1 hr
      rcases he with rfl | rfl
      · exact ⟨hdf1, v', q1, v', μ1, rfl, q2, hS1, hst1⟩
      · exact ⟨hdf1, v', q1, v', μ1, rfl, q2, hS1, hst1⟩
  | callK h ho ih =>
    refine ⟨fun μ w args' hL hS => ?_, trivial⟩
    refine (ih.1 μ w args' hL hS).mono fun e w' hh => ?_
    obtain ⟨v', μ1, rfl, hv, hS1, hst⟩ := hh
    obtain ⟨k1, k2⟩ := hS1.kill _ ho
    exact ⟨v', μ1, rfl, hv, k1, hst.trans k2⟩
theorem run_sound (hm : P.follows .mixedOrders = true) {f : FuncId} {args : List Value} {H H1 : SHeap} {v : Value} (h : Run P (.call f args H) (.val v H1)) {μ : Mu} {w : World} {args' : Array Value} (hL : LR μ args args'.toList) (hS : Sim P base μ H w) :
    Calls P f args' w fun e w' => ∃ v' μ1, e = .returned v' ∧ VR μ1 v v' ∧ Sim P base μ1 H1 w' ∧ Step μ H w μ1 H1 w' := (run_sound' hm h).1 μ w args' hL hS
end
def binI (op : BinOp) (k : IntKind) (a b : Int) : Option Value :=
  match op with
  | .add => some (.int k (k.wrap (a + b)))
  | .sub => some (.int k (k.wrap (a - b)))
  | .mul => some (.int k (k.wrap (a * b)))
  | .quo => if b = 0 then none else some (.int k (k.wrap (a.tdiv b)))
  | .rem => if b = 0 then none else some (.int k (a.tmod b))
  | .and => some (.int k (k.wrap (BitVec.ofInt k.bits a &&& BitVec.ofInt k.bits b).toNat))
  | .or => some (.int k (k.wrap (BitVec.ofInt k.bits a ||| BitVec.ofInt k.bits b).toNat))
  | .xor => some (.int k (k.wrap (BitVec.ofInt k.bits a ^^^ BitVec.ofInt k.bits b).toNat))
  | .eql => some (.bool (a == b))
  | .neq => some (.bool (a != b))
  | .lss => some (.bool (decide (a < b)))
  | .leq => some (.bool (decide (a ≤ b)))
  | .gtr => some (.bool (decide (a > b)))
  | .geq => some (.bool (decide (a ≥ b)))
  | _ => none
def binS (op : BinOp) (k : IntKind) (a b : Int) : Option Value :=
  if b < 0 then none else
  match op with
  | .shl => some (.int k (k.wrap (a * 2 ^ (min b.toNat k.bits))))
  | .shr => some (.int k (a.fdiv (2 ^ (min b.toNat k.bits))))
  | _ => none
def binT (op : BinOp) (a b : ByteArray) : Option Value :=
  match op with
  | .add => if a.size + b.size ≤ 9223372036854775807 then some (.string (a ++ b)) else none
  | .eql => some (.bool (a.toList == b.toList))
  | .neq => some (.bool !(a.toList == b.toList))
  | .lss => some (.bool (Op.bytesLess a.toList b.toList))
  | _ => none
def boolT (P : Program) (t : TypeId) : Bool := match P.underlying t with
  | some .bool => true
  | _ => false
def strT (P : Program) (t : TypeId) : Bool := match P.underlying t with
  | some .string => true
  | _ => false
theorem intT_B {P : Program} {t : TypeId} {k : IntKind} (h : (match P.underlying t with | some (.int k) => some k | _ => none) = some k) : intB P t = true := by
  unfold intB
  split at h
  · rename_i k' hk; first | rw [hk] | rfl
  · cases h
def intT (P : Program) (t : TypeId) : Option IntKind := match P.underlying t with
  | some (.int k) => some k
  | _ => none
def sliceE (P : Program) (t : TypeId) : Option TypeId := match P.underlying t with
  | some (.slice e) => some e
  | _ => none
theorem boolT_spec {P : Program} {t : TypeId} (h : boolT P t = true) : P.underlying t = some .bool := by
  unfold boolT at h
  split at h
  · assumption
  · cases h
theorem strT_spec {P : Program} {t : TypeId} (h : strT P t = true) : P.underlying t = some .string := by
  unfold strT at h
  split at h
  · assumption
  · cases h
theorem intT_spec {P : Program} {t : TypeId} {k : IntKind} (h : intT P t = some k) : P.underlying t = some (.int k) := by
  unfold intT at h
  split at h
  · obtain rfl := Option.some.inj h; assumption
  · cases h
theorem sliceE_spec {P : Program} {t e : TypeId} (h : sliceE P t = some e) : P.underlying t = some (.slice e) := by
  unfold sliceE at h
  split at h
  · obtain rfl := Option.some.inj h; assumption
  · cases h
def sbin (P : Program) (op : BinOp) (t : TypeId) (x y : Value) : Option Value :=
  match x, y with
  | .int k a, .int k' b => if op = .shl ∨ op = .shr then binS op k a b else if k = k' then binI op k a b else none
  | .string a, .string b => binT op a b
  | .bool a, .bool b => if boolT P t = true then (match op with | .eql => some (.bool (a == b)) | .neq => some (.bool (!(a == b))) | _ => none) else none
  | .slice a n c, .slice none 0 0 => match sliceE P t with
    | some _ => (match op with | .eql => some (.bool a.isNone) | .neq => some (.bool (!a.isNone)) | _ => none)
    | _ => none
  | _, _ => none
def sun (op : UnOp) (x : Value) : Option Value :=
  match op, x with
  | .neg, .int k n => some (.int k (k.wrap (0 - n)))
  | .xor, .int k n => some (.int k (k.wrap (BitVec.ofInt k.bits (if k.signed then -1 else k.max) ^^^ BitVec.ofInt k.bits n).toNat))
  | .not, .bool b => some (.bool !b)
  | _, _ => none
section
variable {P : Program} {ρ : Operand → Value} {o : Oper} {H : SHeap}
theorem flat_of_all {o : Oper} (h : ∀ x ∈ o.op.operands, flat (ρ x) = true) : (o.op.operands.all fun x => flat (ρ x)) = true := by
  rw [Array.all_eq_true']
  exact h
theorem binI_run {op : BinOp} {k : IntKind} {a b : Int} {v : Value} (h : binI op k a b = some v) (t : TypeId) : pureRun P (binOp op t (.int k a) (.int k b)) = some v ∧ flat v = true := by
  cases op <;> simp only [binI] at h <;> first
    | (cases h; done)
    | (split at h
       · cases h
       · rename_i hb
         obtain rfl := Option.some.inj h
         exact ⟨by simp [binOp, Op.intDiv, hb, pureRun_pure], rfl⟩)
    | (obtain rfl := Option.some.inj h
       exact ⟨by simp [binOp, Op.intArith, Op.intBits, Op.intCmp, pureRun_pure], rfl⟩)
theorem binS_run {op : BinOp} {k k' : IntKind} {a b : Int} {v : Value} (hop : op = .shl ∨ op = .shr) (h : binS op k a b = some v) (t : TypeId) : pureRun P (binOp op t (.int k a) (.int k' b)) = some v ∧ flat v = true := by
  unfold binS at h
  split at h
  · cases h
  · rename_i hb
    rcases hop with rfl | rfl
    · simp only at h
      obtain rfl := Option.some.inj h
      exact ⟨by simp [binOp, Op.shift, hb, pureRun_pure], rfl⟩
    · simp only at h
      obtain rfl := Option.some.inj h
      exact ⟨by simp [binOp, Op.shift, hb, pureRun_pure], rfl⟩
theorem binT_run {op : BinOp} {a b : ByteArray} {v : Value} (h : binT op a b = some v) (t : TypeId) : pureRun P (binOp op t (.string a) (.string b)) = some v ∧ flat v = true := by
  unfold binT at h
  split at h
  · split at h
    · rename_i hs
      obtain rfl := Option.some.inj h
      have : ¬ ((((a.size + b.size : Nat)) : Int) > IntKind.i64.max) := by
        have : IntKind.i64.max = 9223372036854775807 := by decide
        omega
      exact ⟨by simp only [binOp, Op.stringOp, if_neg this]; rfl, rfl⟩
    · cases h
  · obtain rfl := Option.some.inj h
    exact ⟨by simp [binOp, Op.stringOp, pureRun_pure], rfl⟩
  · obtain rfl := Option.some.inj h
    exact ⟨by simp [binOp, Op.stringOp, pureRun_pure], rfl⟩
  · obtain rfl := Option.some.inj h
    exact ⟨by simp [binOp, Op.stringOp, pureRun_pure], rfl⟩
  · cases h
theorem pureRun_equal_bool (d : Nat) {t : TypeId} {a b : Bool} (hu : P.underlying t = some .bool) : pureRun P (Op.equalIn (d + 1) t (.bool a) (.bool b)) = some (a == b) := by
  simp only [Op.equalIn, pureRun_bind, pureRun_underlying, hu, Option.bind_some]
  rfl
theorem sbin_run {op : BinOp} {t yt : TypeId} {x y : Operand} {v : Value} (ho : o.op = .binOp op t x y yt) (h : sbin P op t (ρ x) (ρ y) = some v) : FOp P ρ o v := by
  have key : ∀ {a b : Value}, ρ x = a → ρ y = b → flat a = true → flat b = true → (∀ u : Unit, pureRun P (eqGuard op t x y a b) = some ()) → pureRun P (binOp op t a b) = some v → flat v = true → FOp P ρ o v := by
    intro a b ha hb hfa hfb hg hr hv
    refine .pure (by simp [isF, ho]) (flat_of_all fun z hz => ?_) hv ?_
    · simp only [ho, Op.operands, List.mem_toArray, List.mem_cons, List.not_mem_nil, or_false] at hz
      rcases hz with rfl | rfl
      · rw [ha]; exact hfa
      · rw [hb]; exact hfb
    · simp only [execOp, ho, ha, hb, pureRun_bind, hg (), Option.bind_some, hr, pureRun_pure]
  unfold sbin at h
  split at h
  · rename_i k a k' b h1 h2
    have hg : ∀ u : Unit, pureRun P (eqGuard op t x y (.int k a) (.int k' b)) = some () := fun _ => by unfold eqGuard; split <;> rfl
    split at h
    · rename_i hop
      obtain ⟨q1, q2⟩ := binS_run (P := P) (k' := k') hop h t
      exact key h1 h2 rfl rfl hg q1 q2
    · split at h
      · rename_i hk
        subst hk
        obtain ⟨q1, q2⟩ := binI_run (P := P) h t
        exact key h1 h2 rfl rfl hg q1 q2
      · cases h
  · rename_i a b h1 h2
    obtain ⟨q1, q2⟩ := binT_run (P := P) h t
    exact key h1 h2 rfl rfl (fun _ => by unfold eqGuard; split <;> rfl) q1 q2
  · rename_i a b h1 h2
    split at h
    · rename_i hu
      have hu := boolT_spec hu
      have hg : ∀ u : Unit, pureRun P (eqGuard op t x y (.bool a) (.bool b)) = some () := fun _ => by unfold eqGuard; split <;> rfl
      have he : pureRun P (Op.equal t (.bool a) (.bool b)) = some (a == b) := pureRun_equal_bool 9999 hu
      split at h
      · obtain rfl := Option.some.inj h
        exact key h1 h2 rfl rfl hg (by simp only [binOp, pureRun_bind, he, Option.bind_some, pureRun_pure]) rfl
      · obtain rfl := Option.some.inj h
        exact key h1 h2 rfl rfl hg (by simp only [binOp, pureRun_bind, he, Option.bind_some, pureRun_pure]) rfl
      · cases h
    · cases h
  · rename_i a n c h1 h2
    split at h
    · rename_i e hu
      have hu := sliceE_spec hu
      split at h
      · obtain rfl := Option.some.inj h
        exact .eqNil ho hu h1 h2
      · obtain rfl := Option.some.inj h
        exact .neNil ho hu h1 h2
      · cases h
    · cases h
  · cases h
theorem sun_run {op : UnOp} {t : TypeId} {x : Operand} {v : Value} (ho : o.op = .unOp op t x) (h : sun op (ρ x) = some v) : FOp P ρ o v := by
  have key : ∀ {a : Value}, ρ x = a → flat a = true → pureRun P (Op.unary op a) = some v → flat v = true → FOp P ρ o v := by
    intro a ha hfa hr hv
    refine .pure (by simp [isF, ho]) (flat_of_all fun z hz => ?_) hv ?_
    · simp only [ho, Op.operands, List.mem_toArray, List.mem_cons, List.not_mem_nil, or_false] at hz
      subst hz
      rw [ha]; exact hfa
    · simp only [execOp, ho, ha, pureRun_bind, hr, Option.bind_some, pureRun_pure]
  unfold sun at h
  split at h
  · rename_i k n h1
    obtain rfl := Option.some.inj h
    exact key h1 rfl (by simp [Op.unary, Op.intArith, pureRun_pure]) rfl
  · rename_i k n h1
    obtain rfl := Option.some.inj h
    exact key h1 rfl (by simp [Op.unary, Op.intBits, pureRun_pure]) rfl
  · rename_i b h1
    obtain rfl := Option.some.inj h
    exact key h1 rfl (by simp [Op.unary, pureRun_pure]) rfl
  · cases h
end
def cellsAt (H : SHeap) (b : Nat) : Option (List Value) := (H[b]?).bind SObj.cells?
def fieldOff (P : Program) (s : TypeId) (f : Nat) : Option Nat := match P.underlying s with
  | some (.struct fs) => (match fs[f]? with
    | some fd => (match sz? P fd.type with
      | some (_ + 1) => some fd.offset
      | _ => none)
    | none => none)
  | _ => none
theorem fieldOff_spec {P : Program} {s : TypeId} {f off : Nat} (h : fieldOff P s f = some off) : ∃ fs fd n, P.underlying s = some (.struct fs) ∧ fs[f]? = some fd ∧ sz? P fd.type = some (n + 1) ∧ fd.offset = off := by
  unfold fieldOff at h
  split at h
  · rename_i fs hu
    split at h
    · rename_i fd hf
      split at h
      · rename_i n hs
        exact ⟨fs, fd, n, hu, hf, hs, by simpa using h⟩
      · cases h
    · cases h
  · cases h
def fieldCut (P : Program) (s : TypeId) (f : Nat) : Option (Nat × Option Nat) := match P.underlying s with
  | some (.struct fs) => (match fs[f]? with
    | some fd => (match aggB P fd.type with
      | some false => some (fd.offset, none)
      | some true => (sz? P fd.type).map fun n => (fd.offset, some n)
      | none => none)
    | none => none)
  | _ => none
def cutCells (cs : Array Value) : Nat × Option Nat → Option Value
  | (off, none) => cs[off]?
  | (off, some n) => some (.agg (cs.extract off (off + n)))
theorem pureRun_map {P : Program} {α β : Type} (x : Sem α) (f : α → β) : pureRun P (f <$> x) = (pureRun P x).map f := by
  rw [map_eq_pure_bind, pureRun_bind]
  cases pureRun P x <;> rfl
theorem fieldCut_run {P : Program} {s : TypeId} {f : Nat} {c : Nat × Option Nat} {cs : Array Value} {v : Value} (h : fieldCut P s f = some c) (hv : cutCells cs c = some v) : pureRun P (Instr.field s (.agg cs) f) = some v := by
  unfold fieldCut at h
  split at h
  · rename_i fs hu
    split at h
    · rename_i fd hf
      simp only [Instr.field, pureRun_bind, pureRun_underlying, hu, Option.bind_some, hf, asAgg, pureRun_pure, part, pureRun_isAgg]
      unfold aggB at h
      cases hd : P.underlying fd.type with
      | none => simp [hd] at h
      | some d =>
        simp only [hd, Option.map_some] at h ⊢
        cases d <;> simp only at h <;> first
          | (obtain rfl := Option.some.inj h
             simp only [cutCells] at hv
             simp [hv, pureRun_pure]
             done)
          | (obtain ⟨n, hn, rfl⟩ := Option.map_eq_some_iff.1 h
             simp only [cutCells, Option.some.injEq] at hv
             subst hv
             simp [pureRun_map, pureRun_sizeOf, hn])
    · cases h
  · cases h
def sbuiltin (P : Program) (ρ : Operand → Value) (H : SHeap) : Callee → List Operand → List TypeId → Option (Value × SHeap)
  | .builtin .len, [x], [t] => (match ρ x with
    | .slice _ n _ => (match sliceE P t with
      | some _ => some (.int .i64 n, H)
      | none => none)
    | .string s => if strT P t = true then some (.int .i64 s.size, H) else none
    | _ => none)
  | .builtin .max, [x, y], _ => (match ρ x, ρ y with
    | .int k a, .int _ b => some (.int k (if b > a then b else a), H)
    | _, _ => none)
  | .builtin .min, [x, y], _ => (match ρ x, ρ y with
    | .int k a, .int _ b => some (.int k (if b < a then b else a), H)
    | _, _ => none)
  | _, _, _ => none
def sop (P : Program) (ρ : Operand → Value) (H : SHeap) : Op → Option (Value × SHeap)
  | .move x => some (ρ x, H)
  | .assign x => some (ρ x, H)
  | .pick c a b => (match ρ c with
    | .bool t => some (if t then ρ a else ρ b, H)
    | _ => none)
  | .alloc e => (match zero? P e with
    | some z => if flat z = true ∧ (sz? P e).isSome = true then some (.pointer (some ⟨H.length, 0, none⟩), H ++ [.own e false z.cells.toList]) else none
    | none => none)
  | .box e x => if (sz? P e).isSome = true then some (.pointer (some ⟨H.length, 0, none⟩), H ++ [.own e false (ρ x).cells.toList]) else none
  | .load ty x => (match ρ x with
    | .pointer (some ⟨b, i, none⟩) => (match cellsAt H b with
      | some cs => (match aggB P ty with
        | some false => (cs[i]?).map fun v => (v, H)
        | some true => (match sz? P ty with
          | some n => if i + n ≤ cs.length then some (.agg ((cs.drop i).take n).toArray, H) else none
          | none => none)
        | none => none)
      | none => none)
    | _ => none)
  | .store ty x y => (match ρ x with
    | .pointer (some ⟨b, i, none⟩) => (match H[b]? with
      | some (.own e l cs) => if sz? P ty = some (ρ y).cells.size ∧ i + (ρ y).cells.size ≤ cs.length ∧ ((ρ y).cells.toList.all (·.oneCell')) = true then some (undef, H.set b (.own e l (spl cs i (ρ y).cells.toList))) else none
      | _ => none)
    | _ => none)
  | .nilCheck x => (match ρ x with
    | .pointer (some a) => some (.pointer (some a), H)
    | _ => none)
  | .binOp op t x y _ => (sbin P op t (ρ x) (ρ y)).map fun v => (v, H)
  | .unOp op _ x => (sun op (ρ x)).map fun v => (v, H)
  | .convert src dst x => (match ρ x with
    | .int _ n => (match intT P src, intT P dst with
      | some _, some k => some (.int k (k.wrap n), H)
      | _, _ => none)
    | .string s => if strT P src = true ∧ strT P dst = true then some (.string s, H) else none
    | _ => none)
  | .makeInterface t x => if P.concrete t = true then some (.iface t (ρ x), H) else none
  | .makeFunc fn a b => some (.func fn (a.map ρ) (b.map ρ), H)
  | .fieldAddr s x f => (match ρ x with
    | .pointer (some ⟨b, i, none⟩) => (fieldOff P s f).map fun off => (.pointer (some ⟨b, i + off, none⟩), H)
    | _ => none)
  | .field t x f => (match ρ x with
    | .agg cs => (match fieldCut P t f with
      | some c => (cutCells cs c).map fun v => (v, H)
      | none => none)
    | _ => none)
  | .indexAddr t x ix => (match ρ x, ρ ix with
    | .slice (some ⟨b, i, none⟩) len _, .int _ n => (match sliceE P t with
      | some e => (match sz? P e with
        | some sz => if 0 ≤ n ∧ n < len then some (.pointer (some ⟨b, i + n.toNat * sz, none⟩), H) else none
        | none => none)
      | none => none)
    | _, _ => none)
  | .index t x ix => (match ρ x, ρ ix with
    | .string s, .int _ n => if strT P t = true ∧ 0 ≤ n ∧ n < s.size then some (.int .u8 ((s.data.getD n.toNat 0).toNat : Int), H) else none
    | _, _ => none)
  | .extract x i => (match ρ x with
    | .tuple vs => (vs[i]?).map fun v => (v, H)
    | _ => none)
  | .build t ps => (match zero? P t with
    | some z => if flat z = true then (pureRun P (Instr.build t (ps.map fun p => (p.1, ρ p.2)))).map fun v => (v, H) else none
    | none => none)
  | .call c => sbuiltin P ρ H c.callee c.args.toList c.argTypes.toList
  | .slice t x lo hi none => (match ρ x with
    | .string s => (match loOf ρ lo, hiOf ρ s.size hi with
      | some l, some h => if strT P t = true ∧ l ≤ h ∧ h ≤ s.size then some (.string (s.extract l h), H) else none
      | _, _ => none)
    | _ => none)
  | _ => none
theorem cellsAt_spec {H : SHeap} {b : Nat} {cs : List Value} (h : cellsAt H b = some cs) : ∃ X, H[b]? = some X ∧ X.cells? = some cs := by
  unfold cellsAt at h
  cases hb : H[b]? with
  | none => simp [hb] at h
  | some X => exact ⟨X, rfl, by simpa [hb] using h⟩
theorem loHi_flat {ρ : Operand → Value} {x : Operand} {n d : Nat} (h : loOf ρ (some x) = some n ∨ hiOf ρ d (some x) = some n) : ∃ k m, ρ x = .int k m ∧ 0 ≤ m ∧ m.toNat = n := by
  simp only [loOf, hiOf, or_self] at h
  split at h
  · rename_i k m he
    split at h
    · rename_i h0; exact ⟨k, m, he, h0, by simpa using h⟩
    · cases h
  · cases h
theorem pureRun_sliceBound {P : Program} {k : IntKind} {n : Int} {y : Nat} {code : BoundsCode} (h0 : 0 ≤ n) (h1 : n.toNat ≤ y) : pureRun P (Instr.sliceBound (.int k n) y code) = some n.toNat := by
  have : n ≤ (y : Int) := by omega
  simp only [Instr.sliceBound, asIntOf, pureRun_bind, pureRun_pure, Option.bind_some]
  rw [if_pos ⟨h0, this⟩]
  rfl
theorem sop_run {P : Program} {ops : Array Oper} {o : Oper} {t : List Value} {H H1 : SHeap} {v : Value} (hw : Region.wanted o (syielded ops t) = true) (h : sop P (sev t) H o.op = some (v, H1)) : Run P (.op ops o t H) (.val v H1) := by
  have F : isF P o = true → FOp P (sev t) o v → H1 = H → Run P (.op ops o t H) (.val v H1) := fun hf hF e => e ▸ .opF hw hf hF
  have M : isF P o = false → MOp P (sev t) H o v H1 → Run P (.op ops o t H) (.val v H1) := fun hf hM => .opM hw hf hM
  cases hop : o.op <;> rw [hop] at h <;> try (simp [sop] at h; done)
  case move x => simp only [sop, Option.some.injEq, Prod.mk.injEq] at h; obtain ⟨rfl, rfl⟩ := h; exact F (by simp [isF, hop]) (.move hop) rfl
  case assign x => simp only [sop, Option.some.injEq, Prod.mk.injEq] at h; obtain ⟨rfl, rfl⟩ := h; exact F (by simp [isF, hop]) (.assign hop) rfl
  case pick c a b =>
    simp only [sop] at h
    split at h
    · rename_i t' hc
      simp only [Option.some.injEq, Prod.mk.injEq] at h
      obtain ⟨rfl, rfl⟩ := h
      exact F (by simp [isF, hop]) (.pick hop hc) rfl
    · cases h
  case alloc e =>
    simp only [sop] at h
    split at h
    · rename_i z hz
      split at h
      · rename_i hc
        simp only [Option.some.injEq, Prod.mk.injEq] at h
        obtain ⟨rfl, rfl⟩ := h
        obtain ⟨n, hn⟩ := Option.isSome_iff_exists.1 hc.2
        exact M (by simp [isF, hop]) (.alloc hop hz hc.1 hn)
      · cases h
    · cases h
  case box e x =>
    simp only [sop] at h
    split at h
    · rename_i hc
      simp only [Option.some.injEq, Prod.mk.injEq] at h
      obtain ⟨rfl, rfl⟩ := h
      obtain ⟨n, hn⟩ := Option.isSome_iff_exists.1 hc
      exact M (by simp [isF, hop]) (.box hop hn)
    · cases h
  case load ty x =>
    simp only [sop] at h
    split at h
    · rename_i b i hx
      split at h
      · rename_i cs hcs
        obtain ⟨X, hX, hc⟩ := cellsAt_spec hcs
        split at h
        · rename_i ha
          obtain ⟨u, hu, he⟩ := Option.map_eq_some_iff.1 h
          simp only [Prod.mk.injEq] at he
          obtain ⟨rfl, rfl⟩ := he
          exact M (by simp [isF, hop]) (.load1 hop ha hx hX hc hu)
        · rename_i ha
          split at h
          · rename_i n hn
            split at h
            · rename_i hfit
              simp only [Option.some.injEq, Prod.mk.injEq] at h
              obtain ⟨rfl, rfl⟩ := h
              exact M (by simp [isF, hop]) (.loadA hop ha hn hx hX hc hfit)
            · cases h
          · cases h
        · cases h
      · cases h
    · cases h
  case store ty x y =>
    simp only [sop] at h
    split at h
    · rename_i b i hx
      split at h
      · rename_i e l cs hX
        split at h
        · rename_i hc
          simp only [Option.some.injEq, Prod.mk.injEq] at h
          obtain ⟨rfl, rfl⟩ := h
          exact M (by simp [isF, hop]) (.store hop hc.1 hx hX hc.2.1 hc.2.2)
        · cases h
      · cases h
    · cases h
  case nilCheck x =>
    simp only [sop] at h
    split at h
    · rename_i a hx
      simp only [Option.some.injEq, Prod.mk.injEq] at h
      obtain ⟨rfl, rfl⟩ := h
      exact F (by simp [isF, hop]) (hx ▸ .nilCheck hop hx) rfl
    · cases h
  case binOp op ty x y yt =>
    simp only [sop] at h
    obtain ⟨u, hu, he⟩ := Option.map_eq_some_iff.1 h
    simp only [Prod.mk.injEq] at he
    obtain ⟨rfl, rfl⟩ := he
    exact F (by simp [isF, hop]) (sbin_run hop hu) rfl
  case unOp op ty x =>
    simp only [sop] at h
    obtain ⟨u, hu, he⟩ := Option.map_eq_some_iff.1 h
    simp only [Prod.mk.injEq] at he
    obtain ⟨rfl, rfl⟩ := he
    exact F (by simp [isF, hop]) (sun_run hop hu) rfl
  case convert src dst x =>
    simp only [sop] at h
    split at h
    · rename_i k0 n hx
      split at h
      · rename_i k1 k hs hd
        simp only [Option.some.injEq, Prod.mk.injEq] at h
        obtain ⟨rfl, rfl⟩ := h
        have hiF : isF P o = true := by simp [isF, hop, intT_B hs, intT_B hd]
        refine F hiF (.pure hiF (flat_of_all fun z hz => ?_) rfl ?_) rfl
        · simp only [hop, Op.operands, List.mem_toArray, List.mem_cons, List.not_mem_nil, or_false] at hz
          subst hz
          rw [hx]; rfl
        · simp only [execOp, hop, hx, pureRun_bind, convert, pureRun_underlying, intT_spec hs, intT_spec hd, Option.bind_some, Conv.intToInt, pureRun_pure]
      · cases h
    · rename_i s hx
      split at h
      · rename_i hc
        simp only [Option.some.injEq, Prod.mk.injEq] at h
        obtain ⟨rfl, rfl⟩ := h
        refine M (by simp [isF, hop, intB, strT_spec hc.1]) (.ofPure (by simp [hop]) (flat_of_all fun z hz => ?_) rfl ?_)
        · simp only [hop, Op.operands, List.mem_toArray, List.mem_cons, List.not_mem_nil, or_false] at hz
          subst hz
          rw [hx]; rfl
        · simp only [execOp, hop, hx, pureRun_bind, convert, pureRun_underlying, strT_spec hc.1, strT_spec hc.2, Option.bind_some, pureRun_pure]
      · cases h
    · cases h
  case makeInterface ty x =>
    simp only [sop] at h
    split at h
    · rename_i hc
      simp only [Option.some.injEq, Prod.mk.injEq] at h
      obtain ⟨rfl, rfl⟩ := h
      exact F (by simp [isF, hop]) (.makeIface hop hc) rfl
    · cases h
  case makeFunc fn a b => simp only [sop, Option.some.injEq, Prod.mk.injEq] at h; obtain ⟨rfl, rfl⟩ := h; exact F (by simp [isF, hop]) (.makeFunc hop) rfl
  case fieldAddr s x f =>
    simp only [sop] at h
    split at h
    · rename_i b i hx
      obtain ⟨off, hoff, he⟩ := Option.map_eq_some_iff.1 h
      simp only [Prod.mk.injEq] at he
      obtain ⟨rfl, rfl⟩ := he
      obtain ⟨fs, fd, n, q1, q2, q3, rfl⟩ := fieldOff_spec hoff
      exact F (by simp [isF, hop]) (.fieldAddr hop q1 q2 q3 hx) rfl
    · cases h
  case field ty x f =>
    simp only [sop] at h
    split at h
    · rename_i cs hx
      split at h
      · rename_i c hc
        obtain ⟨u, hu, he⟩ := Option.map_eq_some_iff.1 h
        simp only [Prod.mk.injEq] at he
        obtain ⟨rfl, rfl⟩ := he
        exact F (by simp [isF, hop]) (.field hop hx (fieldCut_run hc hu)) rfl
      · cases h
    · cases h
  case indexAddr ty x ix =>
    simp only [sop] at h
    split at h
    · rename_i b i len cap k n hx hi
      split at h
      · rename_i e he
        split at h
        · rename_i sz hs
          split at h
          · rename_i hc
            simp only [Option.some.injEq, Prod.mk.injEq] at h
            obtain ⟨rfl, rfl⟩ := h
            exact F (by simp [isF, hop]) (.indexS hop (sliceE_spec he) hs hx hi hc.1 hc.2) rfl
          · cases h
        · cases h
      · cases h
    · cases h
  case index ty x ix =>
    simp only [sop] at h
    split at h
    · rename_i s k n hx hi
      split at h
      · rename_i hc
        simp only [Option.some.injEq, Prod.mk.injEq] at h
        obtain ⟨rfl, rfl⟩ := h
        refine F (by simp [isF, hop]) (.pure (by simp [isF, hop]) (flat_of_all fun z hz => ?_) rfl ?_) rfl
        · simp only [hop, Op.operands, List.mem_toArray, List.mem_cons, List.not_mem_nil, or_false] at hz
          rcases hz with rfl | rfl
          · rw [hx]; rfl
          · rw [hi]; rfl
        · have hlt : n.toNat < s.size := by omega
          have e1 : s[n.toNat]? = some (s.data.getD n.toNat 0) := by
            have : s[n.toNat]? = some s[n.toNat] := by simp [hlt]
            rw [this]
            have hlt' : n.toNat < s.data.size := hlt
            simp only [Array.getD_eq_getD_getElem?, Array.getElem?_eq_getElem hlt', Option.getD_some]
            rfl
          simp only [execOp, hop, hx, hi, pureRun_bind, Instr.index, asIntOf, pureRun_pure, Option.bind_some, pureRun_underlying, strT_spec hc.1, if_pos hc.2.1, e1]
      · cases h
    · cases h
  case extract x i =>
    simp only [sop] at h
    split at h
    · rename_i vs hx
      obtain ⟨u, hu, he⟩ := Option.map_eq_some_iff.1 h
      simp only [Prod.mk.injEq] at he
      obtain ⟨rfl, rfl⟩ := he
      exact F (by simp [isF, hop]) (.extract hop hx hu) rfl
    · cases h
  case build ty ps =>
    simp only [sop] at h
    split at h
    · rename_i z hz
      split at h
      · rename_i hf
        obtain ⟨u, hu, he⟩ := Option.map_eq_some_iff.1 h
        simp only [Prod.mk.injEq] at he
        obtain ⟨rfl, rfl⟩ := he
        exact F (by simp [isF, hop]) (.build hop hz hf hu) rfl
      · cases h
    · cases h
  case slice ty x lo hi mx =>
    cases mx with
    | some m => simp only [sop] at h; cases h
    | none =>
      simp only [sop] at h
      split at h
      · rename_i s hx
        split at h
        · rename_i l hh hl hhi
          split at h
          · rename_i hc
            simp only [Option.some.injEq, Prod.mk.injEq] at h
            obtain ⟨rfl, rfl⟩ := h
            refine M (by simp [isF, hop]) (.ofPure (by simp [hop]) (flat_of_all fun z hz => ?_) rfl ?_)
            · simp only [hop, Op.operands] at hz
              have hz : z = x ∨ lo = some z ∨ hi = some z := by
                cases lo <;> cases hi <;> simp at hz ⊢ <;> first | (rcases hz with rfl | rfl | rfl <;> simp; done) | (rcases hz with rfl | rfl <;> simp; done) | (subst hz; simp; done) | (rcases hz with rfl | hz) <;> first | (rcases hz with rfl | rfl <;> simp; done) | (subst hz; simp; done) | (simp; done) | skip
              rcases hz with rfl | rfl | rfl
              · rw [hx]; rfl
              · obtain ⟨k, m, e, -⟩ := loHi_flat (d := 0) (.inl hl); rw [e]; rfl
              · obtain ⟨k, m, e, -⟩ := loHi_flat (.inr hhi); rw [e]; rfl
            · have hb : pureRun P (Instr.sliceBounds false s.size s.size (lo.map (sev t)) (hi.map (sev t)) none) = some (l, hh, s.size) := by
                unfold Instr.sliceBounds
                cases hi with
                | none =>
                  have : s.size = hh := by simpa [hiOf] using hhi
                  subst this
                  cases lo with
                  | none =>
                    have : 0 = l := by simpa [loOf] using hl
                    subst this
                    simp [pureRun_bind, pureRun_pure]
                  | some y =>
                    obtain ⟨k, m, e, h0, rfl⟩ := loHi_flat (d := 0) (.inl hl)
                    simp [e, pureRun_bind, pureRun_map, pureRun_pure, pureRun_sliceBound (P := P) (k := k) h0 hc.2.1]
                | some z =>
                  obtain ⟨k', m', e', h0', rfl⟩ := loHi_flat (.inr hhi)
                  cases lo with
                  | none =>
                    have : 0 = l := by simpa [loOf] using hl
                    subst this
                    simp [e', pureRun_bind, pureRun_map, pureRun_pure, pureRun_sliceBound (P := P) (k := k') h0' hc.2.2]
                  | some y =>
                    obtain ⟨k, m, e, h0, rfl⟩ := loHi_flat (d := 0) (.inl hl)
                    simp [e, e', pureRun_bind, pureRun_map, pureRun_pure, pureRun_sliceBound (P := P) (k := k') h0' hc.2.2, pureRun_sliceBound (P := P) (k := k) h0 hc.2.1]
              simp only [execOp, hop, hx, pureRun_bind, Instr.sliceAt, Instr.slice, pureRun_underlying, strT_spec hc.1, Option.bind_some, Option.map_none]
              simp [hb, pureRun_bind, pureRun_map, pureRun_pure]
          · cases h
        · cases h
      · cases h
  case call c =>
    obtain ⟨callee, args, ats⟩ := c
    simp only [sop] at h
    unfold sbuiltin at h
    split at h
    · rename_i x ty hargs hats
      obtain rfl : args = #[x] := by apply Array.ext'; simpa using hargs
      obtain rfl : ats = #[ty] := by apply Array.ext'; simpa using hats
      split at h
      · rename_i a n cc hx
        split at h
        · rename_i e he
          simp only [Option.some.injEq, Prod.mk.injEq] at h
          obtain ⟨rfl, rfl⟩ := h
          exact F (by simp [isF, hop]) (.lenS hop (sliceE_spec he) hx) rfl
        · cases h
      · rename_i s hx
        split at h
        · rename_i hs
          simp only [Option.some.injEq, Prod.mk.injEq] at h
          obtain ⟨rfl, rfl⟩ := h
          refine F (by simp [isF, hop]) (.pure (by simp [isF, hop]) (flat_of_all fun z hz => ?_) rfl ?_) rfl
          · simp [hop, Op.operands, Call.operands] at hz
            subst hz; rw [hx]; rfl
          · simp [execOp, hop, resolve, hx, invoke, builtin, Builtin.len_, pureRun_bind, pureRun_map, pureRun_pure, pureRun_underlying, strT_spec hs, goInt]
        · cases h
      · cases h
    · rename_i x y hargs
      obtain rfl : args = #[x, y] := by apply Array.ext'; simpa using hargs
      split at h
      · rename_i k a k' b hx hy
        simp only [Option.some.injEq, Prod.mk.injEq] at h
        obtain ⟨rfl, rfl⟩ := h
        refine F (by simp [isF, hop]) (.pure (by simp [isF, hop]) (flat_of_all fun z hz => ?_) rfl ?_) rfl
        · simp [hop, Op.operands, Call.operands] at hz
          rcases hz with rfl | rfl
          · rw [hx]; rfl
          · rw [hy]; rfl
        · simp [execOp, hop, resolve, hx, hy, invoke, builtin, Builtin.max_, Builtin.max2, pureRun_bind, pureRun_map, pureRun_pure]
      · cases h
    · rename_i x y hargs
      obtain rfl : args = #[x, y] := by apply Array.ext'; simpa using hargs
      split at h
      · rename_i k a k' b hx hy
        simp only [Option.some.injEq, Prod.mk.injEq] at h
        obtain ⟨rfl, rfl⟩ := h
        refine F (by simp [isF, hop]) (.pure (by simp [isF, hop]) (flat_of_all fun z hz => ?_) rfl ?_) rfl
        · simp [hop, Op.operands, Call.operands] at hz
          rcases hz with rfl | rfl
          · rw [hx]; rfl
          · rw [hy]; rfl
        · simp [execOp, hop, resolve, hx, hy, invoke, builtin, Builtin.min_, Builtin.min2, pureRun_bind, pureRun_map, pureRun_pure]
      · cases h
    · cases h
def gt (t : List Value) (i : Nat) : Value := t.getD i undef
theorem gt_same {t : List Value} {i : Nat} (v : Value) (h : i < t.length) : gt (t.set i v) i = v := by simp [gt, List.getD_eq_getElem?_getD, h]
theorem gt_ne {t : List Value} {i j : Nat} (v : Value) (h : i ≠ j) : gt (t.set i v) j = gt t j := by simp [gt, List.getD_eq_getElem?_getD, List.getElem?_set, h]
theorem gt_set (t : List Value) (i j : Nat) (v : Value) : gt (t.set i v) j = if i = j then (if i < t.length then v else gt t j) else gt t j := by
  by_cases h : i = j
  · subst h
    rw [if_pos rfl]
    split
    · rename_i hl; exact gt_same v hl
    · rename_i hl; simp [gt, List.getD_eq_getElem?_getD, hl]
  · rw [if_neg h]; exact gt_ne v h
def boolOf : Value → Option Bool
  | .bool b => some b
  | _ => none
theorem syielded_gt (ops : Array Oper) (t : List Value) (j : Nat) : syielded ops t j = match (ops[j]?).bind (·.dst) with | some d => boolOf (gt t d) | none => none := by
  unfold syielded
  cases (ops[j]?).bind (·.dst) with
  | none => rfl
  | some d =>
    simp only [Option.bind_some]
    by_cases h : @LT.lt Nat _ d t.length
    · rw [gtE h]
      simp only [gt, List.getD_eq_getElem?_getD, gtE h, Option.getD_some]
      unfold boolOf
      cases t[d] <;> rfl
    · rw [List.getElem?_eq_none (Nat.le_of_not_lt h)]
      simp only [gt, List.getD_eq_getElem?_getD, List.getElem?_eq_none (Nat.le_of_not_lt h), Option.getD_none]
      rfl
def Callable (P : Program) (g : FuncId) : Prop := ∃ fn, P.funcs[g]? = some fn ∧ (fn.name == "runtime.NumGoroutine") = false ∧ fn.body.isSome = true
def Alien (P : Program) (f : FuncId) (args : List Value) (v : Value) : Prop := args.all flat1 = true ∧ flat v = true ∧ pureRun P (callFunc f args.toArray) = some (.value v)
def SW (P : Program) (f : FuncId) (args : List Value) (H : SHeap) (Q : Value → SHeap → Prop) : Prop := ∃ v H1, ((Callable P f ∧ Run P (.call f args H) (.val v H1)) ∨ (Alien P f args v ∧ H1 = H)) ∧ Q v H1
def CW (P : Program) (c : Code) (t : List Value) (H : SHeap) (Q : SExit → List Value → SHeap → Prop) : Prop := ∃ e t1 H1, Run P (.code c t H) (.code e t1 H1) ∧ Q e t1 H1
theorem SW.mono {P : Program} {f : FuncId} {args : List Value} {H : SHeap} {Q Q' : Value → SHeap → Prop} (h : SW P f args H Q) (hq : ∀ v H1, Q v H1 → Q' v H1) : SW P f args H Q' := by
  obtain ⟨v, H1, hr, hv⟩ := h
  exact ⟨v, H1, hr, hq _ _ hv⟩
def isStore : Op → Bool
  | .store .. => true
  | _ => false
def EC (P : Program) (ops : Array Oper) (draw : Bool) (k : Nat) (s : Bool) : Prop := draw = true → s = true → barB P ops k = true
def ECx (P : Program) (ops : Array Oper) (draw : Bool) (k : Nat) (H H1 : SHeap) : Prop := draw = true → barB P ops k = true ∨ Ext H H1
def OX (P : Program) (ops : Array Oper) (draw : Bool) (k : Nat) (o : Oper) (t : List Value) (H : SHeap) (K : List Value → SHeap → Prop) : Op → Prop
  | .call { callee := .value f, args, .. } => (match sev t f with
    | .func (.func g) first cap => SW P g (first.toList ++ args.toList.map (sev t) ++ cap.toList) H fun v H1 => ECx P ops draw k H H1 ∧ K (sput t o.dst v) H1
    | _ => False)
  | op => (match sop P (sev t) H op with
    | some (v, H1) => EC P ops draw k (isStore op) ∧ K (sput t o.dst v) H1
    | none => ∃ v H1, isF P o = false ∧ MOp P (sev t) H o v H1 ∧ ECx P ops draw k H H1 ∧ K (sput t o.dst v) H1)
def OW (P : Program) (ops : Array Oper) (draw : Bool) : Nat → List Oper → List Value → SHeap → (List Value → SHeap → Prop) → Prop
  | _, [], t, H, Q => Q t H
  | k, o :: rest, t, H, Q => if Region.wanted o (syielded ops t) = true then OX P ops draw k o t H (fun t1 H1 => OW P ops draw (k + 1) rest t1 H1 Q) o.op else OW P ops draw (k + 1) rest (sput t o.dst undef) H Q
def seqK (P : Program) (K : List Value → SHeap → Prop) (Q : SExit → List Value → SHeap → Prop) : SExit → List Value → SHeap → Prop
  | .normal, t, H => K t H
  | e, t, H => Q e t H
def blockK (id : Nat) (Q : SExit → List Value → SHeap → Prop) : SExit → List Value → SHeap → Prop
  | .exit id', t, H => if id' = id then Q .normal t H else Q (.exit id') t H
  | e, t, H => Q e t H
def LX (P : Program) (o : Bool) (ρ : Operand → Value) (H : SHeap) (R W : List Nat) (K : Value → SHeap → List Nat → List Nat → Prop) : Op → Prop
  | .load ty x => (match ρ x with
    | .pointer (some ⟨b, _, none⟩) => b ∉ W ∧ (match sop P ρ H (.load ty x) with | some (v, H1) => K v H1 (b :: R) W | none => False)
    | _ => False)
  | .store ty x y => (match ρ x with
    | .pointer (some ⟨b, _, none⟩) => (o = true ∨ (b ∉ W ∧ b ∉ R)) ∧ (match sop P ρ H (.store ty x y) with | some (v, H1) => K v H1 R (if o = true then W else b :: W) | none => False)
    | _ => False)
  | op => (match sop P ρ H op with | some (v, H1) => K v H1 R W | none => False)
def lateB (P : Program) (ops : Array Oper) : Bool := ops.all fun o => isF P o || (match o.op with | .load .. => true | .store .. => true | _ => false)
def OL (P : Program) (ops : Array Oper) : Nat → List Oper → List Value → SHeap → List Nat → List Nat → (List Value → SHeap → Prop) → Prop
  | _, [], t, H, _, _, Q => Q t H
  | k, o :: rest, t, H, R, W, Q => if Region.wanted o (syielded ops t) = true then LX P (barB P ops k) (sev t) H R W (fun v H1 R1 W1 => OL P ops (k + 1) rest (sput t o.dst v) H1 R1 W1 Q) o.op else OL P ops (k + 1) rest (sput t o.dst undef) H R W Q
def constsOk (ops : Array Oper) : Bool := ops.all fun o => o.op.operands.all okOperand
def CX (P : Program) : Code → List Value → SHeap → (SExit → List Value → SHeap → Prop) → Prop
  | .skip, t, H, Q => Q .normal t H
  | .ret, t, H, Q => Q .ret t H
  | .exit id, t, H, Q => Q (.exit id) t H
  | .seq a b, t, H, Q => CX P a t H (seqK P (fun t1 H1 => CX P b t1 H1 Q) Q)
  | .cond c x y, t, H, Q => okOperand c = true ∧ (match sev t c with
    | .bool b => if b = true then CX P x t H Q else CX P y t H Q
    | _ => False)
  | .block id c, t, H, Q => CX P c t H (blockK id Q)
  | .loop c, t, H, Q => CW P (.loop c) t H Q
  | .region id ops draw, t, H, Q => (constsOk ops = true ∧ (draw = true → regChk ops = true) ∧ OW P ops draw 0 ops.toList t H (fun t1 H1 => Q .normal t1 H1)) ∨ (constsOk ops = true ∧ regChk ops = true ∧ lateB P ops = true ∧ OL P ops 0 ops.toList t H [] [] (fun t1 H1 => Q .normal t1 H1))
  | _, _, _, _ => False
section
variable {P : Program}
theorem sop_ext {ρ : Operand → Value} {H H1 : SHeap} {op : Op} {v : Value} (h : sop P ρ H op = some (v, H1)) (hs : isStore op = false) : Ext H H1 := by
  have same : H1 = H → Ext H H1 := fun e => e ▸ Ext.refl H
  have one : ∀ {e : TypeId} {l : Bool} {cs : List Value}, H1 = H ++ [.own e l cs] → Ext H H1 := fun {e l cs} he => ⟨[.own e l cs], he, fun x hx e' cs' => by simp at hx; subst hx; simp⟩
  cases op <;> simp only [sop] at h <;> try (first | (simp at h; done) | (cases hs; done))
  case move => simp at h; exact same h.2.symm
  case assign => simp at h; exact same h.2.symm
  case pick => split at h <;> simp at h; exact same h.2.symm
  case alloc =>
    split at h
    · split at h
      · simp at h; exact one h.2.symm
      · cases h
    · cases h
  case box =>
    split at h
    · simp at h; exact one h.2.symm
    · cases h
  case load =>
    split at h
    · split at h
      · split at h
        · obtain ⟨u, hu, he⟩ := Option.map_eq_some_iff.1 h; simp at he; exact same he.2.symm
        · split at h
          · split at h
            · simp at h; exact same h.2.symm
            · cases h
          · cases h
        · cases h
      · cases h
    · cases h
  case nilCheck => split at h <;> simp at h; exact same h.2.symm
  case binOp => obtain ⟨u, hu, he⟩ := Option.map_eq_some_iff.1 h; simp at he; exact same he.2.symm
  case unOp => obtain ⟨u, hu, he⟩ := Option.map_eq_some_iff.1 h; simp at he; exact same he.2.symm
  case convert =>
    split at h
    · split at h <;> simp at h; exact same h.2.symm
    · split at h <;> simp at h; exact same h.2.symm
    · cases h
  case makeInterface => split at h <;> simp at h; exact same h.2.symm
  case makeFunc => simp at h; exact same h.2.symm
  case fieldAddr =>
    split at h
    · obtain ⟨u, hu, he⟩ := Option.map_eq_some_iff.1 h; simp at he; exact same he.2.symm
    · cases h
  case field =>
    split at h
    · split at h
      · obtain ⟨u, hu, he⟩ := Option.map_eq_some_iff.1 h; simp at he; exact same he.2.symm
      · cases h
    · cases h
  case indexAddr =>
    split at h
    · split at h
      · split at h
        · split at h <;> simp at h; exact same h.2.symm
        · cases h
      · cases h
    · cases h
  case index => split at h; (split at h <;> simp at h; exact same h.2.symm); cases h
  case extract =>
    split at h
    · obtain ⟨u, hu, he⟩ := Option.map_eq_some_iff.1 h; simp at he; exact same he.2.symm
    · cases h
  case build =>
    split at h
    · split at h
      · obtain ⟨u, hu, he⟩ := Option.map_eq_some_iff.1 h; simp at he; exact same he.2.symm
      · cases h
    · cases h
  case call c =>
    unfold sbuiltin at h
    split at h
    · split at h
      · split at h <;> simp at h; exact same h.2.symm
      · split at h <;> simp at h; exact same h.2.symm
      · cases h
    · split at h <;> simp at h; exact same h.2.symm
    · split at h <;> simp at h; exact same h.2.symm
    · cases h
  case slice ty x lo hi mx =>
    cases mx with
    | some m => simp at h
    | none =>
      simp only at h
      split at h
      · split at h
        · split at h <;> simp at h; exact same h.2.symm
        · cases h
      · cases h
theorem ox_run {ops : Array Oper} {draw : Bool} {k : Nat} {o : Oper} {t : List Value} {H : SHeap} {K : List Value → SHeap → Prop} (hw : Region.wanted o (syielded ops t) = true) (h : OX P ops draw k o t H K o.op) :
    ∃ v H1, Run P (.op ops o t H) (.val v H1) ∧ (draw = true → isF P o = false → barB P ops k = true ∨ Ext H H1) ∧ K (sput t o.dst v) H1 := by
  have other : (match sop P (sev t) H o.op with
    | some (v, H1) => EC P ops draw k (isStore o.op) ∧ K (sput t o.dst v) H1
    | none => ∃ v H1, isF P o = false ∧ MOp P (sev t) H o v H1 ∧ ECx P ops draw k H H1 ∧ K (sput t o.dst v) H1) → ∃ v H1, Run P (.op ops o t H) (.val v H1) ∧ (draw = true → isF P o = false → barB P ops k = true ∨ Ext H H1) ∧ K (sput t o.dst v) H1 := by
    intro h
    split at h
    · rename_i v H1 hs
      refine ⟨v, H1, sop_run hw hs, fun hd _ => ?_, h.2⟩
      cases hst : isStore o.op with
      | true => exact .inl (h.1 hd hst)
      | false => exact .inr (sop_ext hs hst)
    · obtain ⟨v, H1, hf, hm, he, hK⟩ := h
      exact ⟨v, H1, .opM hw hf hm, fun hd _ => he hd, hK⟩
  cases hop : o.op <;> rw [hop] at h other <;> try (exact other h)
  rename_i c
  obtain ⟨callee, args, ats⟩ := c
  cases callee with
  | invoke r m => exact other h
  | builtin b => exact other h
  | value f =>
    simp only [OX] at h
    split at h
    · rename_i g first cap hf
      obtain ⟨v, H1, ⟨⟨fn, h1, h2, h3⟩, hr⟩ | ⟨⟨ha, hv, hp⟩, rfl⟩, he, hK⟩ := h
      · exact ⟨v, H1, .opC hw (by simp [isF, hop]) hop hf h1 h2 h3 hr, fun hd _ => he hd, hK⟩
      · refine ⟨v, H1, .opM hw (by simp [isF, hop]) (.ofPure (by simp [hop]) ?_ hv ?_), fun hd _ => he hd, hK⟩
        · simp only [List.all_append, Bool.and_eq_true, List.all_map] at ha
          have h1 : first.all flat1 = true := by simpa using ha.1.1
          have h2 : cap.all flat1 = true := by simpa using ha.2
          have h3 : ∀ x ∈ args, flat (sev t x) = true := fun x hx => by
            have := List.all_eq_true.1 ha.1.2 x (by simpa using hx)
            simp only [Function.comp] at this
            simp [flat, this]
          simp only [hop, Op.operands, Call.operands]
          have h0 : flat (sev t f) = true := by rw [hf]; simp [flat, h1, h2]
          refine Array.all_eq_true'.2 fun x hx => ?_
          rcases Array.mem_append.1 hx with hx | hx
          · simp at hx; subst hx; exact h0
          · exact h3 x hx
        · have : (first.toList ++ args.toList.map (sev t) ++ cap.toList).toArray = first ++ args.map (sev t) ++ cap := by apply Array.ext'; simp
          rw [this] at hp
          simp only [execOp, hop, resolve, hf, Deferred.ofValue, invoke]
          exact hp
    · exact h.elim
theorem ow_run {ops : Array Oper} {draw : Bool} {Q : List Value → SHeap → Prop} : ∀ (rest : List Oper) (k : Nat) (t : List Value) (H : SHeap), (∀ i, rest[i]? = ops[k + i]?) → OW P ops draw k rest t H Q →
    ∃ (T : Nat → List Value) (V : Nat → Value) (Hs : Nat → SHeap), T k = t ∧ Hs k = H ∧ (∀ i o, k ≤ i → ops[i]? = some o → Run P (.op ops o (T i) (Hs i)) (.val (V i) (Hs (i + 1))) ∧ T (i + 1) = sput (T i) o.dst (V i) ∧ (draw = true → isF P o = false → barB P ops i = true ∨ Ext (Hs i) (Hs (i + 1)))) ∧
      Q (T (k + rest.length)) (Hs (k + rest.length))
  | [], k, t, H, hr, h => by
    refine ⟨fun _ => t, fun _ => undef, fun _ => H, rfl, rfl, fun i o hki ho => ?_, by simpa [OW] using h⟩
    have h1 : ops.size ≤ k := by
      have := hr 0
      simp at this
      exact this
    have h2 := (Array.getElem?_eq_some_iff.1 ho).1
    omega
  | o :: rest, k, t, H, hr, h => by
    have ho : ops[k]? = some o := by have := hr 0; simpa using this.symm
    have hr' : ∀ i, rest[i]? = ops[k + 1 + i]? := fun i => by have := hr (i + 1); simp at this; rw [this]; congr 1; omega
    obtain ⟨v, H1, q1, q2, q3⟩ : ∃ v H1, Run P (.op ops o t H) (.val v H1) ∧ (draw = true → isF P o = false → barB P ops k = true ∨ Ext H H1) ∧ OW P ops draw (k + 1) rest (sput t o.dst v) H1 Q := by
      simp only [OW] at h
      split at h
      · rename_i hw; exact ox_run hw h
      · rename_i hw
        exact ⟨undef, H, .opSkip (by simpa using hw), fun _ _ => .inr (Ext.refl H), h⟩
    obtain ⟨T, V, Hs, r1, r2, r3, r4⟩ := ow_run rest (k + 1) _ H1 hr' q3
    refine ⟨fun i => if i ≤ k then t else T i, fun i => if i ≤ k then v else V i, fun i => if i ≤ k then H else Hs i, by simp, by simp, fun i o' hki ho' => ?_, ?_⟩
    · by_cases hik : i = k
      · subst hik
        rw [ho] at ho'
        obtain rfl := Option.some.inj ho'
        simp only [Nat.le_refl, if_true, show ¬ (i + 1 ≤ i) by omega, if_false, r1, r2]
        exact ⟨q1, trivial, q2⟩
      · simp only [show ¬ (i ≤ k) by omega, show ¬ (i + 1 ≤ k) by omega, if_false]
        exact r3 i o' (by omega) ho'
    · have e : k + (o :: rest).length = k + 1 + rest.length := by simp; omega
      rw [e]
      simp only [show ¬ (k + 1 + rest.length ≤ k) by omega, if_false]
      exact r4
theorem sop_mop {ops : Array Oper} {o : Oper} {t : List Value} {H H1 : SHeap} {v : Value} (hw : Region.wanted o (syielded ops t) = true) (hf : isF P o = false) (hc : ∀ c, o.op ≠ .call c) (h : sop P (sev t) H o.op = some (v, H1)) : MOp P (sev t) H o v H1 := by
  have hr := sop_run (ops := ops) hw h
  cases hr with
  | opSkip hw' => rw [hw] at hw'; cases hw'
  | opF _ hF _ => rw [hf] at hF; cases hF
  | opM _ _ hm => exact hm
  | opC _ _ ho => exact absurd ho (hc _)
theorem lx_run {ops : Array Oper} {o : Oper} {t : List Value} {H : SHeap} {R W : List Nat} {K : Value → SHeap → List Nat → List Nat → Prop} (hw : Region.wanted o (syielded ops t) = true) (hb : (isF P o || (match o.op with | .load .. => true | .store .. => true | _ => false)) = true) {br : Bool} (h : LX P br (sev t) H R W K o.op) :
    ∃ v H1 R1 W1 g, Run P (.op ops o t H) (.val v H1) ∧ LateOk P ops o t H v H1 g ∧ K v H1 R1 W1 ∧ ((g = none ∧ R1 = R ∧ W1 = W) ∨ (∃ b, g = some (b, none) ∧ b ∉ W ∧ R1 = b :: R ∧ W1 = W) ∨ ∃ b x, g = some (b, some x) ∧ (br = true ∨ (b ∉ W ∧ b ∉ R)) ∧ R1 = R ∧ W1 = if br = true then W else b :: W) := by
  cases hop : o.op with
  | load ty x =>
    rw [hop] at h
    have hf : isF P o = false := by simp [isF, hop]
    simp only [LX] at h
    split at h
    · rename_i b i hx
      obtain ⟨hbW, h⟩ := h
      split at h
      · rename_i v H1 hs
        have hs0 := hs
        simp only [sop, hx] at hs
        cases hcs : cellsAt H b with
        | none => rw [hcs] at hs; cases hs
        | some cs =>
          obtain ⟨X, hX, hXc⟩ := cellsAt_spec hcs
          have hH1 : H1 = H := by
            rw [hcs] at hs
            simp only at hs
            split at hs
            · obtain ⟨u, hu, he⟩ := Option.map_eq_some_iff.1 hs; simp at he; exact he.2.symm
            · split at hs
              · split at hs
                · simp at hs; exact hs.2.symm
                · cases hs
              · cases hs
            · cases hs
          subst hH1
          have hlive : H1[b]? ≠ some .dead := fun e => by rw [hX] at e; simp at e; subst e; simp [SObj.cells?] at hXc
          refine ⟨v, H1, b :: R, W, some (b, none), sop_run hw (by rw [hop]; exact hs0), ⟨hw, hf, (gsI.1 hX).1, hlive, rfl, fun H' hH' => ?_⟩, h, .inr (.inl ⟨b, rfl, hbW, rfl, rfl⟩)⟩
          refine sop_mop (ops := ops) hw hf (by simp [hop]) ?_
          rw [hop]
          have : cellsAt H' b = cellsAt H1 b := by unfold cellsAt; rw [hH']
          rw [hcs] at hs
          simp only [sop, hx, this, hcs, lateH]
          revert hs
          cases aggB P ty with
          | none => simp
          | some g =>
            cases g with
            | false =>
              simp only
              cases cs[i]? <;> simp
            | true =>
              simp only
              cases sz? P ty with
              | none => simp
              | some n =>
                simp only
                split <;> simp
      · exact h.elim
    · exact h.elim
  | store ty x y =>
    rw [hop] at h
    have hf : isF P o = false := by simp [isF, hop]
    simp only [LX] at h
    split at h
    · rename_i b i hx
      obtain ⟨hbW, h⟩ := h
      split at h
      · rename_i v H1 hs
        have hs0 := hs
        simp only [sop, hx] at hs
        split at hs
        · rename_i e l cs hX
          split at hs
          · rename_i hcond
            simp only [Option.some.injEq, Prod.mk.injEq] at hs
            obtain ⟨rfl, rfl⟩ := hs
            refine ⟨_, _, R, _, some (b, some (.own e l (spl cs i (sev t y).cells.toList))), sop_run hw (by rw [hop]; exact hs0), ⟨hw, hf, (gsI.1 hX).1, by rw [hX]; simp, rfl, fun H' hH' => ?_⟩, h, .inr (.inr ⟨b, _, rfl, hbW, rfl, rfl⟩)⟩
            refine sop_mop (ops := ops) hw hf (by simp [hop]) ?_
            rw [hop]
            simp only [sop, hx, hH', hX, lateH]
            rw [if_pos hcond]
          · cases hs
        · cases hs
      · exact h.elim
    · exact h.elim
  | _ =>
    have hF : isF P o = true := by simpa [hop] using hb
    rw [hop] at h
    simp only [LX] at h
    split at h
    · rename_i v H1 hs
      have hr := sop_run (ops := ops) hw (by rw [hop]; exact hs)
      have hH : H1 = H := by
        cases hr with
        | opSkip => rfl
        | opF => rfl
        | opM _ hf => rw [hF] at hf; cases hf
        | opC _ hf => rw [hF] at hf; cases hf
      exact ⟨v, H1, R, W, none, hr, ⟨.inr hF, hH⟩, h, .inl ⟨rfl, rfl, rfl⟩⟩
    · exact h.elim
theorem ol_run {ops : Array Oper} {Q : List Value → SHeap → Prop} (hlb : lateB P ops = true) : ∀ (rest : List Oper) (k : Nat) (t : List Value) (H : SHeap) (R W : List Nat), (∀ i, rest[i]? = ops[k + i]?) → OL P ops k rest t H R W Q →
    ∃ (T : Nat → List Value) (V : Nat → Value) (Hs : Nat → SHeap) (tg : Nat → Option (Nat × Option SObj)), T k = t ∧ Hs k = H ∧ (∀ i o, k ≤ i → ops[i]? = some o → Run P (.op ops o (T i) (Hs i)) (.val (V i) (Hs (i + 1))) ∧ T (i + 1) = sput (T i) o.dst (V i) ∧ LateOk P ops o (T i) (Hs i) (V i) (Hs (i + 1)) (tg i)) ∧
      (∀ i b y, k ≤ i → tg i = some (b, y) → barB P ops i = true ∨ (b ∉ W ∧ (y ≠ none → b ∉ R))) ∧ (∀ (i j : Nat) (b : Nat) (x : SObj) (y : Option SObj), k ≤ i → k ≤ j → tg i = some (b, some x) → tg j = some (b, y) → i ≠ j → barB P ops i = true ∨ barB P ops j = true) ∧ (∀ j, k ≤ j → ops.size ≤ j → tg j = none) ∧ Q (T (k + rest.length)) (Hs (k + rest.length))
  | [], k, t, H, R, W, hr, h => by
    refine ⟨fun _ => t, fun _ => undef, fun _ => H, fun _ => none, rfl, rfl, fun i o hki ho => ?_, by simp, by simp, by simp, by simpa [OL] using h⟩
    have h1 : ops.size ≤ k := by
      have := hr 0
      simp at this
      exact this
    have h2 := (Array.getElem?_eq_some_iff.1 ho).1
    omega
  | o :: rest, k, t, H, R, W, hr, h => by
    have ho : ops[k]? = some o := by have := hr 0; simpa using this.symm
    have hkl := (Array.getElem?_eq_some_iff.1 ho).1
    have hr' : ∀ i, rest[i]? = ops[k + 1 + i]? := fun i => by have := hr (i + 1); simp at this; rw [this]; congr 1; omega
    have hob := Array.all_eq_true'.1 hlb o (Array.mem_of_getElem? ho)
    obtain ⟨v, H1, R1, W1, g, q1, q2, q3, q4⟩ : ∃ v H1 R1 W1 g, Run P (.op ops o t H) (.val v H1) ∧ LateOk P ops o t H v H1 g ∧ OL P ops (k + 1) rest (sput t o.dst v) H1 R1 W1 Q ∧ ((g = none ∧ R1 = R ∧ W1 = W) ∨ (∃ b, g = some (b, none) ∧ b ∉ W ∧ R1 = b :: R ∧ W1 = W) ∨ ∃ b x, g = some (b, some x) ∧ (barB P ops k = true ∨ (b ∉ W ∧ b ∉ R)) ∧ R1 = R ∧ W1 = if barB P ops k = true then W else b :: W) := by
      simp only [OL] at h
      split at h
      · rename_i hw; exact lx_run hw hob h
      · rename_i hw
        have hw' : Region.wanted o (syielded ops t) = false := by simpa using hw
        exact ⟨undef, H, R, W, none, .opSkip hw', ⟨.inl hw', rfl⟩, h, .inl ⟨rfl, rfl, rfl⟩⟩
    obtain ⟨T, V, Hs, tg, r1, r2, r3, r5, r6, r7, r4⟩ := ol_run hlb rest (k + 1) _ H1 R1 W1 hr' q3
    have hsub : ∀ b, (b ∈ W → b ∈ W1) ∧ (b ∈ R → b ∈ R1) := by
      intro b
      rcases q4 with ⟨-, rfl, rfl⟩ | ⟨c, -, -, rfl, rfl⟩ | ⟨c, x, -, -, rfl, rfl⟩
      · exact ⟨id, id⟩
      · exact ⟨id, List.mem_cons_of_mem _⟩
      · split
        · exact ⟨id, id⟩
        · exact ⟨List.mem_cons_of_mem _, id⟩
    refine ⟨fun i => if i ≤ k then t else T i, fun i => if i ≤ k then v else V i, fun i => if i ≤ k then H else Hs i, fun i => if i ≤ k then g else tg i, by simp, by simp, fun i o' hki ho' => ?_, fun i b y hki hg => ?_, fun i j b x y hki hkj hgi hgj hne => ?_, fun j h1 h2 => ?_, ?_⟩
    · by_cases hik : i = k
      · subst hik
        rw [ho] at ho'
        obtain rfl := Option.some.inj ho'
        simp only [Nat.le_refl, if_true, show ¬ (i + 1 ≤ i) by omega, if_false, r1, r2]
        exact ⟨q1, trivial, q2⟩
      · simp only [show ¬ (i ≤ k) by omega, show ¬ (i + 1 ≤ k) by omega, if_false]
        exact r3 i o' (by omega) ho'
    · by_cases hik : i = k
      · subst hik
        simp only [Nat.le_refl, if_true] at hg
        rcases q4 with ⟨e, -⟩ | ⟨c, e, h1, -⟩ | ⟨c, x, e, h1, -⟩
        · rw [e] at hg; cases hg
        · rw [e] at hg; simp at hg; obtain ⟨rfl, rfl⟩ := hg; exact .inr ⟨h1, fun h => absurd rfl h⟩
        · rw [e] at hg; simp at hg; obtain ⟨rfl, rfl⟩ := hg
          exact h1.imp id fun q => ⟨q.1, fun _ => q.2⟩
      · simp only [show ¬ (i ≤ k) by omega, if_false] at hg
        exact (r5 i b y (by omega) hg).imp id fun ⟨h1, h2⟩ => ⟨fun hb => h1 ((hsub b).1 hb), fun hy hb => h2 hy ((hsub b).2 hb)⟩
    · by_cases hik : i = k
      · subst hik
        simp only [Nat.le_refl, if_true, show ¬ (j ≤ i) by omega, if_false] at hgi hgj
        rcases r5 j b y (by omega) hgj with h0 | ⟨h1, h2⟩
        · exact .inr h0
        rcases q4 with ⟨e, -⟩ | ⟨d, e, -⟩ | ⟨d, z, e, -, -, rfl⟩
        · rw [e] at hgi; cases hgi
        · rw [e] at hgi; simp at hgi
        · rw [e] at hgi
          simp at hgi
          obtain ⟨rfl, rfl⟩ := hgi
          cases hbi : barB P ops i with
          | true => exact .inl rfl
          | false => rw [hbi] at h1; simp at h1
      · simp only [show ¬ (i ≤ k) by omega, if_false] at hgi
        by_cases hjk : j = k
        · subst hjk
          simp only [Nat.le_refl, if_true] at hgj
          rcases r5 i b (some x) (by omega) hgi with h0 | ⟨h1, h2⟩
          · exact .inl h0
          rcases q4 with ⟨e, -⟩ | ⟨d, e, -, rfl, -⟩ | ⟨d, z, e, -, -, rfl⟩
          · rw [e] at hgj; cases hgj
          · rw [e] at hgj
            simp at hgj
            obtain ⟨rfl, rfl⟩ := hgj
            exact absurd List.mem_cons_self (h2 (by simp))
          · rw [e] at hgj
            simp at hgj
            obtain ⟨rfl, rfl⟩ := hgj
            cases hbi : barB P ops j with
            | true => exact .inr rfl
            | false => rw [hbi] at h1; simp at h1
        · simp only [show ¬ (j ≤ k) by omega, if_false] at hgj
          exact r6 i j b x y (by omega) (by omega) hgi hgj hne
    · simp only [show ¬ (j ≤ k) by omega, if_false]
      exact r7 j (by omega) h2
    · have e : k + (o :: rest).length = k + 1 + rest.length := by simp; omega
      rw [e]
      simp only [show ¬ (k + 1 + rest.length ≤ k) by omega, if_false]
      exact r4
theorem cx_run : ∀ (c : Code) (t : List Value) (H : SHeap) (Q : SExit → List Value → SHeap → Prop), CX P c t H Q → CW P c t H Q
  | .skip, t, H, Q, h => ⟨.normal, t, H, .skip, h⟩
  | .ret, t, H, Q, h => ⟨.ret, t, H, .ret, h⟩
  | .exit id, t, H, Q, h => ⟨.exit id, t, H, .exit, h⟩
  | .seq a b, t, H, Q, h => by
    obtain ⟨e, t1, H1, hr, hq⟩ := cx_run a t H _ h
    cases e with
    | normal =>
      obtain ⟨e2, t2, H2, hr2, hq2⟩ := cx_run b t1 H1 Q hq
      exact ⟨e2, t2, H2, .seqN hr hr2, hq2⟩
    | exit id => exact ⟨.exit id, t1, H1, .seqE hr (by simp), hq⟩
    | ret => exact ⟨.ret, t1, H1, .seqE hr (by simp), hq⟩
  | .cond c x y, t, H, Q, h => by
    simp only [CX] at h
    obtain ⟨hk, h⟩ := h
    split at h
    · rename_i b hc
      cases b with
      | true =>
        obtain ⟨e, t1, H1, hr, hq⟩ := cx_run x t H Q (by simpa using h)
        exact ⟨e, t1, H1, .cond hc hk hr, hq⟩
      | false =>
        obtain ⟨e, t1, H1, hr, hq⟩ := cx_run y t H Q (by simpa using h)
        exact ⟨e, t1, H1, .cond hc hk hr, hq⟩
    · exact h.elim
  | .block id c, t, H, Q, h => by
    obtain ⟨e, t1, H1, hr, hq⟩ := cx_run c t H _ h
    refine ⟨_, t1, H1, .block hr, ?_⟩
    cases e with
    | normal => exact hq
    | exit id' =>
      simp only [blockK] at hq
      by_cases hi : id' = id
      · subst hi; simpa using hq
      · simpa [hi] using hq
    | ret => exact hq
  | .loop c, t, H, Q, h => h
  | .region id ops draw, t, H, Q, h => by
    simp only [CX] at h
    rcases h with ⟨h1, h2, h3⟩ | ⟨h1, h2, h0, h3⟩
    rotate_left
    · obtain ⟨T, V, Hs, tg, r1, r2, r3, r5, r6, r7, r4⟩ := ol_run h0 ops.toList 0 t H [] [] (fun i => by simp) h3
      have hrun := Run.regionL (P := P) (id := id) (ops := ops) (draw := draw) T V Hs tg h1 (fun i o ho => (r3 i o (Nat.zero_le _) ho).1) (fun i o ho => (r3 i o (Nat.zero_le _) ho).2.1) h2 (fun i o ho => (r3 i o (Nat.zero_le _) ho).2.2) (fun i j b x y => r6 i j b x y (Nat.zero_le _) (Nat.zero_le _)) (fun j => r7 j (Nat.zero_le _))
      rw [r1, r2] at hrun
      exact ⟨.normal, _, _, hrun, by simpa using r4⟩
    obtain ⟨T, V, Hs, r1, r2, r3, r4⟩ := ow_run ops.toList 0 t H (fun i => by simp) h3
    have hrun := Run.region (P := P) (id := id) (ops := ops) (draw := draw) T V Hs h1 (fun i o ho => (r3 i o (Nat.zero_le _) ho).1) (fun i o ho => (r3 i o (Nat.zero_le _) ho).2.1) (fun hd => ⟨h2 hd, fun i o ho hf => (r3 i o (Nat.zero_le _) ho).2.2 hd hf⟩)
    rw [r1, r2] at hrun
    exact ⟨.normal, _, _, hrun, by simpa using r4⟩
  | .rangeFunc .., t, H, Q, h => by simp only [CX] at h
  | .scope .., t, H, Q, h => by simp only [CX] at h
  | .label .., t, H, Q, h => by simp only [CX] at h
  | .goto .., t, H, Q, h => by simp only [CX] at h
  | .refuse .., t, H, Q, h => by simp only [CX] at h
def RX (P : Program) (t : List Value) (H : SHeap) : List ResultVar → (List Value → Prop) → Prop
  | [], K => K []
  | .tmp i :: rs, K => RX P t H rs fun vs => K (gt t i :: vs)
  | .cell a ty :: rs, K => (match gt t a with
    | .pointer (some ⟨b, i, none⟩) => (match cellsAt H b with
      | some cs => (match aggB P ty with
        | some false => (match cs[i]? with
          | some v => RX P t H rs fun vs => K (v :: vs)
          | none => False)
        | some true => (match sz? P ty with
          | some n => i + n ≤ cs.length ∧ RX P t H rs fun vs => K (.agg ((cs.drop i).take n).toArray :: vs)
          | none => False)
        | none => False)
      | none => False)
    | _ => False)
theorem rx_run {t : List Value} {H : SHeap} : ∀ (rs : List ResultVar) (K : List Value → Prop), RX P t H rs K → ∃ vs, RVs P t H rs vs ∧ K vs
  | [], K, h => ⟨[], .nil, h⟩
  | .tmp i :: rs, K, h => by
    obtain ⟨vs, h1, h2⟩ := rx_run rs _ h
    exact ⟨_, .tmp h1, h2⟩
  | .cell a ty :: rs, K, h => by
    simp only [RX] at h
    split at h
    · rename_i b i hx
      split at h
      · rename_i cs hcs
        obtain ⟨X, hX, hc⟩ := cellsAt_spec hcs
        split at h
        · rename_i ha
          split at h
          · rename_i v hv
            obtain ⟨vs, h1, h2⟩ := rx_run rs _ h
            exact ⟨_, .cell1 ha hx hX hc hv h1, h2⟩
          · exact h.elim
        · rename_i ha
          split at h
          · rename_i n hn
            obtain ⟨vs, h1, h2⟩ := rx_run rs _ h.2
            exact ⟨_, .cellA ha hn hx hX hc h.1 h1, h2⟩
          · exact h.elim
        · exact h.elim
      · exact h.elim
    · exact h.elim
def retK (P : Program) (rs : List ResultVar) (Q : Value → SHeap → Prop) : SExit → List Value → SHeap → Prop
  | .normal, t, H => RX P t H rs fun vs => Q (retOf vs) H
  | .ret, t, H => RX P t H rs fun vs => Q (retOf vs) H
  | .exit _, _, _ => False
theorem SW.enterR {f : FuncId} {fn : Func} {c : Code} {args : List Value} {H : SHeap} {Q : Value → SHeap → Prop} (hf : P.funcs[f]? = some fn) (hn : (fn.name == "runtime.NumGoroutine") = false) (hb : fn.body = some c)
    (h : CX P c (args ++ List.replicate (fn.ntmps - args.length) undef) H (retK P fn.results.toList Q)) : ∃ v H1, Callable P f ∧ Run P (.call f args H) (.val v H1) ∧ Q v H1 := by
  have hc : Callable P f := ⟨fn, hf, hn, by rw [hb]; rfl⟩
  obtain ⟨e, t1, H1, hr, hq⟩ := cx_run _ _ _ _ h
  cases e with
  | normal =>
    obtain ⟨vs, h1, h2⟩ := rx_run _ _ hq
    exact ⟨_, H1, hc, .call hf hb hr (.inl rfl) h1, h2⟩
  | exit id => exact hq.elim
  | ret =>
    obtain ⟨vs, h1, h2⟩ := rx_run _ _ hq
    exact ⟨_, H1, hc, .call hf hb hr (.inr rfl) h1, h2⟩
end
end Go.Sx
end
