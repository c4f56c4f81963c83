/- Part of the proof of ShopPlans. -/
import Derived.Test.YtoiodfcefbapkaaGreatShopPlansC
set_option linter.unusedVariables false
set_option linter.unusedSimpArgs false
section
namespace Go.Sx
inductive ZItem where
  | xs (l : List XOp)
  | al (r e : Nat)
  | bx (r e : Nat) (y : Operand)
  | fa (g : Option (Nat × Bool)) (d s x f r off : Nat)
  | ldw (g : Option (Nat × Bool)) (d t x r : Nat)
  | ld (g : Option (Nat × Bool)) (d t x r off : Nat)
  | stw (b : Bool) (g : Option (Nat × Bool)) (t x : Nat) (y : Operand) (r : Nat)
  | st (b : Bool) (g : Option (Nat × Bool)) (t x : Nat) (y : Operand) (r off : Nat)
inductive ZCode where
  | skip
  | ret
  | exit (id : Nat)
  | seq (x y : ZCode)
  | cond (c : Operand) (x y : ZCode)
  | block (id : Nat) (x : ZCode)
  | loop (m k : Nat) (x : ZCode)
  | box (m k : Nat) (x : ZCode)
  | ops (l : List ZItem)
  | opsL (l : List ZItem)
inductive ZRes where
  | tmp (i : Nat)
  | cell (a ty : Nat)
structure ZFunc where
  code : ZCode
  results : List ZRes
def ZItem.back : ZItem → List XOp
  | .xs l => l
  | .al r e => [⟨true, none, some r, .alloc e⟩]
  | .bx r e y => [⟨true, none, some r, .box e y⟩]
  | .fa g d s x f _ _ => [⟨true, g, some d, .fieldAddr s (.tmp x) f⟩]
  | .ldw g d t x _ => [⟨true, g, some d, .load t (.tmp x)⟩]
  | .ld g d t x _ _ => [⟨true, g, some d, .load t (.tmp x)⟩]
  | .stw b g t x y _ => [⟨b, g, none, .store t (.tmp x) y⟩]
  | .st b g t x y _ _ => [⟨b, g, none, .store t (.tmp x) y⟩]
def zflat : List ZItem → List XOp
  | [] => []
  | i :: r => i.back ++ zflat r
def ZCode.back : ZCode → XCode
  | .skip => .skip
  | .ret => .ret
  | .exit id => .exit id
  | .seq x y => .seq x.back y.back
  | .cond c x y => .cond c x.back y.back
  | .block id x => .block id x.back
  | .loop _ _ x => .loop x.back
  | .box _ _ x => x.back
  | .ops l => .ops (zflat l)
  | .opsL l => .opsL (zflat l)
def ZRes.back : ZRes → ResultVar
  | .tmp i => .tmp i
  | .cell a ty => .cell a ty
def ZFunc.back (z : ZFunc) : XFunc := ⟨z.code.back, z.results.map ZRes.back⟩
def isPtr : Value → Bool
  | .pointer (some _) => true
  | _ => false
@[simp] theorem isPtr_p (a : Addr) : isPtr (.pointer (some a)) = true := rfl
def padd (v : Value) (n : Nat) : Value := match v with
  | .pointer (some ⟨b, i, none⟩) => .pointer (some ⟨b, i + n, none⟩)
  | _ => undef
def isAg : Value → Bool
  | .agg _ => true
  | _ => false
def Whole (P : Program) (e : TypeId) (v : Value) : Prop := sz? P e = some v.cells.size ∧ (v.cells.toList.all (·.oneCell')) = true ∧ (if isAg v = true then aggB P e = some true else aggB P e = some false ∧ v.cells = #[v])
def ZG (g : Option (Nat × Bool)) (F : Fr) (K1 K2 : Prop) : Prop := match g with
  | none => K1
  | some (j, w) => Gd (boolOf (F j)) w K1 K2
def ZW (P : Program) : List ZItem → Fr → Fr → SHeap → (Fr → Fr → SHeap → Prop) → Prop
  | [], F, G, H, Q => Q F G H
  | .xs l :: r, F, G, H, Q => XW P l F H fun F1 H1 => ZW P r F1 G H1 Q
  | .al c e :: r, F, G, H, Q => Get (zero? P e) fun z => Chk (flat z = true ∧ Whole P e z) (ZW P r (upd F c (.pointer (some ⟨H.length, 0, none⟩))) (upd G c z) (H ++ [.dead]) Q)
  | .bx c e y :: r, F, G, H, Q => Chk (Whole P e (fev F y)) (ZW P r (upd F c (.pointer (some ⟨H.length, 0, none⟩))) (upd G c (fev F y)) (H ++ [.dead]) Q)
  | .fa g d s x f c off :: r, F, G, H, Q => ZG g F (Chk (isPtr (F c) = true) (ZW P r (upd F d (padd (F c) off)) G H Q)) (ZW P r (upd F d undef) G H Q)
  | .ldw g d t x c :: r, F, G, H, Q => ZG g F (Chk (isPtr (F c) = true) (ZW P r (upd F d (G c)) G H Q)) (ZW P r (upd F d undef) G H Q)
  | .ld g d t x c off :: r, F, G, H, Q => ZG g F (Chk (isPtr (F c) = true) (OnG (G c) fun cs => Get (aggB P t) fun a => Br a (Get (sz? P t) fun n => Chk (off + n ≤ cs.size) (ZW P r (upd F d (.agg ((cs.toList.drop off).take n).toArray)) G H Q)) (Get cs.toList[off]? fun v => ZW P r (upd F d v) G H Q)))
      (ZW P r (upd F d undef) G H Q)
  | .stw _ g t x y c :: r, F, G, H, Q => ZG g F (Chk (isPtr (F c) = true ∧ Whole P t (fev F y)) (ZW P r F (upd G c (fev F y)) H Q)) (ZW P r F G H Q)
  | .st _ g t x y c off :: r, F, G, H, Q => ZG g F (Chk (isPtr (F c) = true) (OnG (G c) fun cs => Chk (sz? P t = some (fev F y).cells.size ∧ off + (fev F y).cells.size ≤ cs.size ∧ ((fev F y).cells.toList.all (·.oneCell')) = true) (ZW P r F (upd G c (.agg (wrc cs.toList off (fev F y).cells.toList).toArray)) H Q))) (ZW P r F G H Q)
def seqZ (K : Fr → Fr → SHeap → Prop) (Q : SExit → Fr → Fr → SHeap → Prop) : SExit → Fr → Fr → SHeap → Prop
  | .normal, F, G, H => K F G H
  | e, F, G, H => Q e F G H
def blockZ (id : Nat) (Q : SExit → Fr → Fr → SHeap → Prop) : SExit → Fr → Fr → SHeap → Prop
  | .exit id', F, G, H => if id' = id then Q .normal F G H else Q (.exit id') F G H
  | e, F, G, H => Q e F G H
inductive LoopZ (body : Fr → Fr → SHeap → (SExit → Fr → Fr → SHeap → Prop) → Prop) (Q : SExit → Fr → Fr → SHeap → Prop) : Fr → Fr → SHeap → Prop
  | round {F G : Fr} {H : SHeap} (I : Fr → Fr → SHeap → Prop) (h : body F G H (seqZ I Q)) (hI : ∀ F1 G1 H1, I F1 G1 H1 → LoopZ body Q F1 G1 H1) : LoopZ body Q F G H
def ZX (P : Program) : ZCode → Fr → Fr → SHeap → (SExit → Fr → Fr → SHeap → Prop) → Prop
  | .skip, F, G, H, Q => Q .normal F G H
  | .ret, F, G, H, Q => Q .ret F G H
  | .exit id, F, G, H, Q => Q (.exit id) F G H
  | .seq x y, F, G, H, Q => ZX P x F G H (seqZ (fun F1 G1 H1 => ZX P y F1 G1 H1 Q) Q)
  | .cond c x y, F, G, H, Q => OnB (fev F c) fun b => Br b (ZX P x F G H Q) (ZX P y F G H Q)
  | .block id x, F, G, H, Q => ZX P x F G H (blockZ id Q)
  | .loop _ _ x, F, G, H, Q => LoopZ (ZX P x) Q F G H
  | .box _ _ x, F, G, H, Q => ZX P x F G H Q
  | .ops l, F, G, H, Q => ZW P l F G H (fun F1 G1 H1 => Q .normal F1 G1 H1)
  | .opsL l, F, G, H, Q => ZW P l F G H (fun F1 G1 H1 => Q .normal F1 G1 H1)
def ZR (F G : Fr) : List ZRes → (List Value → Prop) → Prop
  | [], K => K []
  | .tmp i :: rs, K => ZR F G rs fun vs => K (F i :: vs)
  | .cell a ty :: rs, K => Chk (isPtr (F a) = true) (ZR F G rs fun vs => K (G a :: vs))
def retZ (rs : List ZRes) (Q : Value → SHeap → Prop) : SExit → Fr → Fr → SHeap → Prop
  | .normal, F, G, H => ZR F G rs fun vs => Q (retOf vs) H
  | .ret, F, G, H => ZR F G rs fun vs => Q (retOf vs) H
  | .exit _, _, _, _ => False
abbrev Cells := List (Nat × Nat)
abbrev Paths := List (Nat × Nat × Nat × Option (Nat × Bool))
def hasC (C : Cells) (r : Nat) : Bool := (C.lookup r).isSome
def dstFree (C : Cells) : Option Nat → Bool
  | some d => !hasC C d
  | none => true
def kill (d : Nat) (E : Paths) : Paths := E.filter fun p => p.1 != d && p.2.1 != d && (match p.2.2.2 with | some (j, _) => j != d | none => true)
def killO : Option Nat → Paths → Paths
  | some d, E => kill d E
  | none, E => E
def eqG : Option (Nat × Bool) → Option (Nat × Bool) → Bool
  | some (j, w), some (j', w') => j == j' && w == w'
  | none, none => true
  | _, _ => false
def reach (E : Paths) (g : Option (Nat × Bool)) (x r off : Nat) : Bool := (x == r && off == 0) || match E.lookup x with
  | some (r', off', g') => r' == r && off' == off && (eqG g' none || eqG g' g)
  | none => false
def faOk (P : Program) (E : Paths) (g : Option (Nat × Bool)) (s x f r off : Nat) : Bool := match fieldOff P s f with
  | some o => decide (o ≤ off) && reach E g x r (off - o)
  | none => false
def zok (P : Program) (C : Cells) (late : Bool) : Paths → List ZItem → Bool
  | _, [] => true
  | E, .xs l :: r => (l.all fun o => dstFree C o.d) && zok P C late (l.foldl (fun E o => killO o.d E) E) r
  | E, .al c e :: r => C.lookup c == some e && zok P C late (kill c E) r
  | E, .bx c e _ :: r => C.lookup c == some e && zok P C late (kill c E) r
  | E, .fa g d s x f c off :: r => !hasC C d && hasC C c && faOk P E g s x f c off && (match g with | some (j, _) => j != d | none => true) && zok P C late ((d, c, off, g) :: kill d E) r
  | E, .ldw g d t x c :: r => !hasC C d && C.lookup c == some t && reach E g x c 0 && zok P C late (kill d E) r
  | E, .ld g d _ x c off :: r => !hasC C d && hasC C c && reach E g x c off && zok P C late (kill d E) r
  | E, .stw b g t x _ c :: r => (b || late) && C.lookup c == some t && reach E g x c 0 && zok P C late E r
  | E, .st b g _ x _ c off :: r => (b || late) && hasC C c && reach E g x c off && zok P C late E r
def quietOp : Op → Bool
  | .load .. | .store .. => false
  | .call { callee := .value _, .. } => false
  | op => !mxOp op
def zokL : List Nat → List Nat → List ZItem → Bool
  | _, _, [] => true
  | R, W, .xs l :: r => (l.all fun o => quietOp o.op) && zokL R W r
  | R, W, .fa _ _ _ _ _ _ _ :: r => zokL R W r
  | R, W, .ldw _ _ _ _ c :: r => !W.contains c && zokL (c :: R) W r
  | R, W, .ld _ _ _ _ c _ :: r => !W.contains c && zokL (c :: R) W r
  | R, W, .stw b _ _ _ _ c :: r => (b || (!W.contains c && !R.contains c)) && zokL R (if b then W else c :: W) r
  | R, W, .st b _ _ _ _ c _ :: r => (b || (!W.contains c && !R.contains c)) && zokL R (if b then W else c :: W) r
  | _, _, _ => false
def inM (m r : Nat) : Bool := (m >>> r) % 2 == 1
def dstM (m : Nat) : Option Nat → Bool
  | some d => inM m d
  | none => true
def asI (m k : Nat) : ZItem → Bool
  | .xs l => l.all fun o => dstM m o.d
  | .al c _ => inM m c && inM k c
  | .bx c _ _ => inM m c && inM k c
  | .fa _ d _ _ _ _ _ => inM m d
  | .ldw _ d _ _ _ => inM m d
  | .ld _ d _ _ _ _ => inM m d
  | .stw _ _ _ _ _ c => inM k c
  | .st _ _ _ _ _ c _ => inM k c
def asC (m k : Nat) : ZCode → Bool
  | .seq x y => asC m k x && asC m k y
  | .cond _ x y => asC m k x && asC m k y
  | .block _ x => asC m k x
  | .loop _ _ x => asC m k x
  | .box _ _ x => asC m k x
  | .ops l => l.all (asI m k)
  | .opsL l => l.all (asI m k)
  | _ => true
def zokC (P : Program) (C : Cells) : ZCode → Bool
  | .seq x y => zokC P C x && zokC P C y
  | .cond _ x y => zokC P C x && zokC P C y
  | .block _ x => zokC P C x
  | .loop m k x => asC m k x && zokC P C x
  | .box m k x => asC m k x && zokC P C x
  | .ops l => zok P C false [] l
  | .opsL l => zok P C true [] l && zokL [] [] l
  | _ => true
def zokR (C : Cells) (rs : List ZRes) : Bool := rs.all fun r => match r with
  | .tmp i => true
  | .cell a ty => C.lookup a == some ty
section
variable {P : Program}
theorem XW.append : ∀ {l l' : List XOp} {F : Fr} {H : SHeap} {Q : Fr → SHeap → Prop}, XW P l F H (fun F1 H1 => XW P l' F1 H1 Q) → XW P (l ++ l') F H Q
  | [], l', F, H, Q, h => h
  | x :: l, l', F, H, Q, h => by
    simp only [List.cons_append, XW] at h ⊢
    split
    · rename_i hg; rw [hg] at h; exact XS.mono (fun v H1 => XW.append) h
    · rename_i j w hg
      rw [hg] at h
      simp only at h
      split
      · rename_i hb; rw [if_pos hb] at h; exact XS.mono (fun v H1 => XW.append) h
      · rename_i hb; rw [if_neg hb] at h; exact XW.append h
theorem fput_ne {F : Fr} {d : Option Nat} {v : Value} {r : Nat} (h : d ≠ some r) : fput F d v r = F r := by
  cases d with
  | none => rfl
  | some e => exact upd_ne F v fun he => h (by rw [he])
theorem XW.keep : ∀ {l : List XOp} {F : Fr} {H : SHeap} {Q : Fr → SHeap → Prop}, XW P l F H Q → XW P l F H fun F1 H1 => Q F1 H1 ∧ ∀ r, (∀ o ∈ l, o.d ≠ some r) → F1 r = F r
  | [], F, H, Q, h => ⟨h, fun _ _ => rfl⟩
  | x :: l, F, H, Q, h => by
    have next : ∀ v H1, XW P l (fput F x.d v) H1 Q → XW P l (fput F x.d v) H1 fun F1 H1 => Q F1 H1 ∧ ∀ r, (∀ o ∈ x :: l, o.d ≠ some r) → F1 r = F r := fun v H1 h1 =>
      XW.mono (fun F1 H2 ⟨q1, q2⟩ => ⟨q1, fun r hr => by rw [q2 r fun o ho => hr o (List.mem_cons_of_mem _ ho), fput_ne (hr x List.mem_cons_self)]⟩) (XW.keep h1)
    simp only [XW] at h ⊢
    split
    · rename_i hg; rw [hg] at h; exact XS.mono (fun v H1 => next v H1) h
    · rename_i j w hg
      rw [hg] at h
      simp only at h
      split
      · rename_i hb; rw [if_pos hb] at h; exact XS.mono (fun v H1 => next v H1) h
      · rename_i hb; rw [if_neg hb] at h; exact next _ _ h
def grd (g : Option (Nat × Bool)) (F : Fr) : Prop := match g with
  | none => True
  | some (j, w) => boolOf (F j) = some w
theorem ZG.imp {g : Option (Nat × Bool)} {F : Fr} {A B A' B' : Prop} (h : ZG g F A B) (h1 : grd g F → A → A') (h2 : ¬ grd g F → B → B') : ZG g F A' B' := by
  cases g with
  | none => exact h1 trivial h
  | some jw =>
    obtain ⟨j, w⟩ := jw
    simp only [ZG, Gd] at h ⊢
    split
    · rename_i hb; rw [if_pos hb] at h; exact h1 hb h
    · rename_i hb; rw [if_neg hb] at h; exact h2 hb h
theorem xw_zg {b : Bool} {g : Option (Nat × Bool)} {d : Option Nat} {op : Op} {r : List XOp} {F : Fr} {H : SHeap} {Q : Fr → SHeap → Prop} (h : ZG g F (XW P (⟨b, none, d, op⟩ :: r) F H Q) (XW P r (fput F d undef) H Q)) : XW P (⟨b, g, d, op⟩ :: r) F H Q := by
  cases g with
  | none => exact h
  | some jw => exact h
theorem xl_zg {b : Bool} {g : Option (Nat × Bool)} {d : Option Nat} {op : Op} {r : List XOp} {F : Fr} {H : SHeap} {R W : List Nat} {Q : Fr → SHeap → Prop} (h : ZG g F (XL P (⟨b, none, d, op⟩ :: r) F H R W Q) (XL P r (fput F d undef) H R W Q)) : XL P (⟨b, g, d, op⟩ :: r) F H R W Q := by
  cases g with
  | none => exact h
  | some jw => exact h
def PE (E : Paths) (F : Fr) : Prop := ∀ x ∈ E, grd x.2.2.2 F → F x.1 = padd (F x.2.1) x.2.2.1
theorem PE.nil (F : Fr) : PE [] F := fun x h => by simp at h
theorem mem_kill {d : Nat} {E : Paths} {x : Nat × Nat × Nat × Option (Nat × Bool)} (h : x ∈ kill d E) : x ∈ E ∧ x.1 ≠ d ∧ x.2.1 ≠ d ∧ ∀ j w, x.2.2.2 = some (j, w) → j ≠ d := by
  unfold kill at h
  rw [List.mem_filter] at h
  obtain ⟨h1, h2⟩ := h
  simp only [Bool.and_eq_true, bne_iff_ne, ne_eq] at h2
  refine ⟨h1, h2.1.1, h2.1.2, fun j w hg => ?_⟩
  have := h2.2
  rw [hg] at this
  simpa using this
theorem grd_congr {g : Option (Nat × Bool)} {F F1 : Fr} (h : ∀ j w, g = some (j, w) → F1 j = F j) : grd g F1 ↔ grd g F := by
  cases g with
  | none => exact Iff.rfl
  | some jw => obtain ⟨j, w⟩ := jw; simp only [grd, h j w rfl]
theorem PE.kill {E : Paths} {F : Fr} (h : PE E F) (d : Nat) (v : Value) : PE (kill d E) (upd F d v) := fun x hx hg => by
  obtain ⟨h1, h2, h3, h4⟩ := mem_kill hx
  rw [upd_ne _ _ h2, upd_ne _ _ h3]
  exact h x h1 ((grd_congr fun j w e => upd_ne F v (h4 j w e)).1 hg)
theorem mem_kills {l : List XOp} : ∀ {E : Paths} {x : Nat × Nat × Nat × Option (Nat × Bool)}, x ∈ l.foldl (fun E o => killO o.d E) E → x ∈ E ∧ ∀ o ∈ l, o.d ≠ some x.1 ∧ o.d ≠ some x.2.1 ∧ ∀ j w, x.2.2.2 = some (j, w) → o.d ≠ some j := by
  induction l with
  | nil => intro E x h; exact ⟨h, fun o ho => by simp at ho⟩
  | cons o l ih =>
    intro E x h
    simp only [List.foldl_cons] at h
    obtain ⟨h1, h2⟩ := ih h
    cases hd : o.d with
    | none =>
      rw [hd] at h1
      refine ⟨h1, fun o' ho' => ?_⟩
      rcases List.mem_cons.1 ho' with rfl | ho'
      · rw [hd]; simp
      · exact h2 o' ho'
    | some d =>
      rw [hd] at h1
      obtain ⟨q1, q2, q3, q4⟩ := mem_kill h1
      refine ⟨q1, fun o' ho' => ?_⟩
      rcases List.mem_cons.1 ho' with rfl | ho'
      · rw [hd]
        exact ⟨fun e => q2 (Option.some.inj e).symm, fun e => q3 (Option.some.inj e).symm, fun j w hg e => q4 j w hg (Option.some.inj e).symm⟩
      · exact h2 o' ho'
theorem PE.kills {E : Paths} {F F1 : Fr} (h : PE E F) {l : List XOp} (hF : ∀ r, (∀ o ∈ l, o.d ≠ some r) → F1 r = F r) : PE (l.foldl (fun E o => killO o.d E) E) F1 := fun x hx hg => by
  obtain ⟨h1, h2⟩ := mem_kills hx
  rw [hF _ fun o ho => (h2 o ho).1, hF _ fun o ho => (h2 o ho).2.1]
  exact h x h1 ((grd_congr fun j w e => hF j fun o ho => (h2 o ho).2.2 j w e).1 hg)
theorem eqG_spec {g g' : Option (Nat × Bool)} (h : eqG g g' = true) : g = g' := by
  cases g <;> cases g' <;> simp [eqG] at h ⊢
  · obtain ⟨h1, h2⟩ := h; exact Prod.ext h1 h2
theorem lookup_mem {α : Type} : ∀ {E : List (Nat × α)} {x : Nat} {y : α}, E.lookup x = some y → (x, y) ∈ E
  | [], x, y, h => by simp at h
  | (a, b) :: E, x, y, h => by
    rw [List.lookup_cons] at h
    split at h
    · rename_i hx
      have : x = a := by simpa using hx
      subst this
      obtain rfl := Option.some.inj h
      exact List.mem_cons_self
    · exact List.mem_cons_of_mem _ (lookup_mem h)
theorem reach_spec {E : Paths} {F : Fr} {g : Option (Nat × Bool)} {x r off b : Nat} (h : reach E g x r off = true) (hE : PE E F) (hg : grd g F) (hr : F r = .pointer (some ⟨b, 0, none⟩)) : F x = .pointer (some ⟨b, off, none⟩) := by
  simp only [reach, Bool.or_eq_true, Bool.and_eq_true, beq_iff_eq] at h
  rcases h with ⟨rfl, rfl⟩ | h
  · exact hr
  · cases hl : E.lookup x with
    | none => rw [hl] at h; cases h
    | some p =>
      obtain ⟨r', off', g'⟩ := p
      rw [hl] at h
      simp only [Bool.and_eq_true, Bool.or_eq_true, beq_iff_eq] at h
      obtain ⟨⟨rfl, rfl⟩, hgg⟩ := h
      have := hE _ (lookup_mem hl)
      simp only at this
      rw [this, hr]
      · simp [padd]
      · rcases hgg with q | q
        · rw [eqG_spec q]; trivial
        · rw [eqG_spec q]; exact hg
structure ZRel (P : Program) (C : Cells) (F G : Fr) (H : SHeap) (φ : Nat → Option SObj) : Prop where
  fit : Fit φ H
  cell : ∀ r e, C.lookup r = some e → F r = undef ∨ ∃ b, F r = .pointer (some ⟨b, 0, none⟩) ∧ φ b = some (.own e false (G r).cells.toList) ∧ Whole P e (G r)
  inj : ∀ r r' e e' b, C.lookup r = some e → C.lookup r' = some e' → r ≠ r' → F r = .pointer (some ⟨b, 0, none⟩) → F r' ≠ .pointer (some ⟨b, 0, none⟩)
section
variable {C : Cells} {F G : Fr} {H : SHeap} {φ : Nat → Option SObj}
theorem ZRel.at (h : ZRel P C F G H φ) {r e : Nat} (hr : C.lookup r = some e) (hp : isPtr (F r) = true) : ∃ b, F r = .pointer (some ⟨b, 0, none⟩) ∧ φ b = some (.own e false (G r).cells.toList) ∧ Whole P e (G r) ∧ (ov φ H)[b]? = some (.own e false (G r).cells.toList) ∧ b < H.length := by
  rcases h.cell r e hr with q | ⟨b, q1, q2, q3⟩
  · rw [q] at hp; cases hp
  · have hd := (h.fit b _ q2).1
    refine ⟨b, q1, q2, q3, ?_, (gsI.1 hd).1⟩
    rw [ov_at, hd, q2]
    rfl
theorem hasC_spec {r : Nat} (h : hasC C r = true) : ∃ e, C.lookup r = some e := Option.isSome_iff_exists.1 h
theorem ZRel.updF (h : ZRel P C F G H φ) {d : Nat} (hd : hasC C d = false) (v : Value) : ZRel P C (upd F d v) G H φ := by
  have ne : ∀ r e, C.lookup r = some e → r ≠ d := fun r e hr => by rintro rfl; simp [hasC, hr] at hd
  refine ⟨h.fit, fun r e hr => ?_, fun r r' e e' b hr hr' hne hF => ?_⟩
  · rw [upd_ne _ _ (ne r e hr)]; exact h.cell r e hr
  · rw [upd_ne _ _ (ne r e hr)] at hF
    rw [upd_ne _ _ (ne r' e' hr')]
    exact h.inj r r' e e' b hr hr' hne hF
theorem ZRel.congr (h : ZRel P C F G H φ) {F1 : Fr} {H1 : SHeap} (hF : ∀ r e, C.lookup r = some e → F1 r = F r) (hf : Fit φ H1) : ZRel P C F1 G H1 φ := by
  refine ⟨hf, fun r e hr => ?_, fun r r' e e' b hr hr' hne hb => ?_⟩
  · rw [hF r e hr]; exact h.cell r e hr
  · rw [hF r e hr] at hb
    rw [hF r' e' hr']
    exact h.inj r r' e e' b hr hr' hne hb
def putφ (φ : Nat → Option SObj) (b : Nat) (x : SObj) : Nat → Option SObj := fun c => if c = b then some x else φ c
theorem putφ_same (φ : Nat → Option SObj) (b : Nat) (x : SObj) : putφ φ b x b = some x := by simp [putφ]
theorem putφ_ne (φ : Nat → Option SObj) {b c : Nat} (x : SObj) (h : c ≠ b) : putφ φ b x c = φ c := by simp [putφ, h]
theorem ZRel.new (h : ZRel P C F G H φ) {c e : Nat} (hc : C.lookup c = some e) {z : Value} (hz : Whole P e z) :
    ZRel P C (upd F c (.pointer (some ⟨H.length, 0, none⟩))) (upd G c z) (H ++ [.dead]) (putφ φ H.length (.own e false z.cells.toList)) ∧ ov (putφ φ H.length (.own e false z.cells.toList)) (H ++ [.dead]) = ov φ H ++ [.own e false z.cells.toList] := by
  have hn : φ H.length = none := by
    cases hp : φ H.length with
    | none => rfl
    | some x => have := h.fit.lt hp; omega
  refine ⟨⟨fun b x hb => ?_, fun r e' hr => ?_, fun r r' e1 e2 b hr hr' hne hF => ?_⟩, ?_⟩
  · by_cases hbe : b = H.length
    · subst hbe
      rw [putφ_same] at hb
      obtain rfl := Option.some.inj hb
      exact ⟨by simp, _, _, _, rfl⟩
    · rw [putφ_ne _ _ hbe] at hb
      obtain ⟨q1, q2⟩ := h.fit b x hb
      exact ⟨by rw [List.getElem?_append_left (h.fit.lt hb)]; exact q1, q2⟩
  · by_cases hrc : r = c
    · subst hrc
      rw [hc] at hr
      obtain rfl := Option.some.inj hr
      exact .inr ⟨H.length, upd_same _ _ _, by rw [putφ_same, upd_same], by rw [upd_same]; exact hz⟩
    · rw [upd_ne _ _ hrc, upd_ne _ _ hrc]
      rcases h.cell r e' hr with q | ⟨b, q1, q2, q3⟩
      · exact .inl q
      · have := h.fit.lt q2
        exact .inr ⟨b, q1, by rw [putφ_ne _ _ (by omega)]; exact q2, q3⟩
  · have lt : ∀ r e b, C.lookup r = some e → F r = .pointer (some ⟨b, 0, none⟩) → b < H.length := fun r e b hr hF => by
      rcases h.cell r e hr with q | ⟨b', q1, q2, q3⟩
      · rw [q] at hF; cases hF
      · rw [q1] at hF; simp at hF; subst hF; exact h.fit.lt q2
    by_cases h1 : r = c
    · subst h1
      rw [upd_same] at hF
      simp at hF
      subst hF
      rw [upd_ne _ _ (Ne.symm hne)]
      intro hq
      have := lt r' e2 _ hr' hq
      omega
    · rw [upd_ne _ _ h1] at hF
      by_cases h2 : r' = c
      · subst h2
        rw [upd_same]
        intro hq
        simp at hq
        have := lt r e1 b hr hF
        omega
      · rw [upd_ne _ _ h2]
        exact h.inj r r' e1 e2 b hr hr' hne hF
  · apply List.ext_getElem?
    intro b
    rw [ov_at]
    by_cases hb : b < H.length
    · rw [List.getElem?_append_left hb, List.getElem?_append_left (by rw [ov_len]; exact hb), ov_at, putφ_ne _ _ (by omega)]
    · by_cases hbe : b = H.length
      · subst hbe
        rw [putφ_same, List.getElem?_append_right (Nat.le_refl _), List.getElem?_append_right (by rw [ov_len]; exact Nat.le_refl _), ov_len]
        simp
      · rw [List.getElem?_eq_none (by simp; omega), List.getElem?_eq_none (by simp [ov_len]; omega)]
        rfl
theorem ZRel.set (h : ZRel P C F G H φ) {c e b : Nat} (hc : C.lookup c = some e) (hF : F c = .pointer (some ⟨b, 0, none⟩)) {z : Value} (hz : Whole P e z) :
    ZRel P C F (upd G c z) H (putφ φ b (.own e false z.cells.toList)) ∧ ov (putφ φ b (.own e false z.cells.toList)) H = (ov φ H).set b (.own e false z.cells.toList) := by
  have hb : φ b = some (.own e false (G c).cells.toList) := by
    rcases h.cell c e hc with q | ⟨b', q1, q2, q3⟩
    · rw [q] at hF; cases hF
    · rw [q1] at hF; simp at hF; subst hF; exact q2
  have hd := (h.fit b _ hb).1
  have hbl := h.fit.lt hb
  refine ⟨⟨fun b' x hb' => ?_, fun r e' hr => ?_, h.inj⟩, ?_⟩
  · by_cases hbe : b' = b
    · subst hbe
      rw [putφ_same] at hb'
      obtain rfl := Option.some.inj hb'
      exact ⟨hd, _, _, _, rfl⟩
    · rw [putφ_ne _ _ hbe] at hb'
      exact h.fit b' x hb'
  · by_cases hrc : r = c
    · subst hrc
      rw [hc] at hr
      obtain rfl := Option.some.inj hr
      exact .inr ⟨b, hF, by rw [putφ_same, upd_same], by rw [upd_same]; exact hz⟩
    · rw [upd_ne _ _ hrc]
      rcases h.cell r e' hr with q | ⟨b', q1, q2, q3⟩
      · exact .inl q
      · have : b' ≠ b := fun e => by subst e; exact h.inj c r e _ b' hc hr (Ne.symm hrc) hF q1
        exact .inr ⟨b', q1, by rw [putφ_ne _ _ this]; exact q2, q3⟩
  · apply List.ext_getElem?
    intro b'
    rw [ov_at]
    by_cases hbe : b = b'
    · subst hbe
      rw [putφ_same, List.getElem?_set_self (by rw [ov_len]; exact hbl), hd]
      rfl
    · rw [List.getElem?_set_ne hbe, ov_at, putφ_ne _ _ (Ne.symm hbe)]
end
section
variable {ρ : Operand → Value} {H : SHeap} {b e : Nat} {x y : Operand} {v : Value}
theorem ag_cells {v : Value} (h : isAg v = true) : v = .agg v.cells := by cases v <;> simp [isAg] at h; rfl
theorem sop_ldw {t : Nat} (hx : ρ x = .pointer (some ⟨b, 0, none⟩)) (hX : H[b]? = some (.own e false v.cells.toList)) (hw : Whole P t v) : sop P ρ H (.load t x) = some (v, H) := by
  obtain ⟨h1, h2, h3⟩ := hw
  have hc : cellsAt H b = some v.cells.toList := by unfold cellsAt; rw [hX]; rfl
  simp only [sop, hx, hc]
  split at h3
  · rename_i ha
    rw [h3]
    simp only [h1]
    rw [if_pos (by simp)]
    have : (v.cells.toList.drop 0).take v.cells.size = v.cells.toList := by rw [List.drop_zero, List.take_of_length_le (by simp)]
    rw [this]
    simp only [Array.toArray_toList]
    rw [← ag_cells ha]
  · rw [h3.1]
    simp only
    rw [h3.2]
    rfl
theorem sop_fst {t off : Nat} {cs : List Value} (hx : ρ x = .pointer (some ⟨b, off, none⟩)) (hX : H[b]? = some (.own e false cs)) (hs : sz? P t = some (ρ y).cells.size) (hfit : off + (ρ y).cells.size ≤ cs.length) (h1 : ((ρ y).cells.toList.all (·.oneCell')) = true) :
    sop P ρ H (.store t x y) = some (undef, H.set b (.own e false (spl cs off (ρ y).cells.toList))) := by
  simp only [sop, hx, hX]
  rw [if_pos ⟨hs, hfit, h1⟩]
end
theorem Whole.splice {e off : Nat} {cs : Array Value} {vs : List Value} (h : Whole P e (.agg cs)) (hfit : off + vs.length ≤ cs.size) (h1 : (vs.all (·.oneCell')) = true) : Whole P e (.agg (spl cs.toList off vs).toArray) := by
  obtain ⟨q1, q2, q3⟩ := h
  have hl : (spl cs.toList off vs).length = cs.size := by rw [spl_length (by simpa using hfit)]; simp
  refine ⟨?_, ?_, by simpa [isAg] using q3⟩
  · rw [q1]; simp only [Value.cells, List.size_toArray, hl]
  · simp only [Value.cells] at q2 ⊢
    rw [List.all_eq_true] at q2 ⊢
    intro u hu
    simp only [spl, List.mem_append] at hu
    rcases hu with (hu | hu) | hu
    · exact q2 u (List.mem_of_mem_take hu)
    · exact List.all_eq_true.1 h1 u hu
    · exact q2 u (List.mem_of_mem_drop hu)
theorem xw_load {t : Nat} {x : Operand} {d : Option Nat} {r : List XOp} {F : Fr} {H H1 : SHeap} {Q : Fr → SHeap → Prop} {v : Value} (h : sop P (fev F) H (.load t x) = some (v, H1)) (hk : XW P r (fput F d v) H1 Q) : XW P (⟨true, none, d, .load t x⟩ :: r) F H Q := by
  simp only [XW, XS, h]
  exact ⟨fun _ => trivial, hk⟩
theorem xw_store {t : Nat} {x y : Operand} {d : Option Nat} {r : List XOp} {F : Fr} {H H1 : SHeap} {Q : Fr → SHeap → Prop} {v : Value} (h : sop P (fev F) H (.store t x y) = some (v, H1)) (hk : XW P r (fput F d v) H1 Q) : XW P (⟨true, none, d, .store t x y⟩ :: r) F H Q := by
  simp only [XW, XS, h]
  exact ⟨fun _ => trivial, hk⟩
theorem xw_fad {s f b o off : Nat} {x : Nat} {d : Nat} {r : List XOp} {F : Fr} {H : SHeap} {Q : Fr → SHeap → Prop} (hx : F x = .pointer (some ⟨b, off, none⟩)) (hf : fieldOff P s f = some o) (hk : XW P r (upd F d (.pointer (some ⟨b, off + o, none⟩))) H Q) : XW P (⟨true, none, some d, .fieldAddr s (.tmp x) f⟩ :: r) F H Q := by
  have hs : sop P (fev F) H (.fieldAddr s (.tmp x) f) = some (.pointer (some ⟨b, off + o, none⟩), H) := by simp only [sop, fev, hx, hf, Option.map_some]
  simp only [XW, XS, hs]
  exact ⟨fun _ => trivial, hk⟩
theorem wrc_eq {cs vs : List Value} {i : Nat} (h : i + vs.length ≤ cs.length) : wrc cs i vs = spl cs i vs := wrc_spl h
theorem get_some_of {α : Type} {o : Option α} {K : α → Prop} (h : Get o K) : ∃ v, o = some v ∧ K v := by
  cases o with
  | none => exact h.elim
  | some v => exact ⟨v, rfl, h⟩
theorem ong_of {v : Value} {K : Array Value → Prop} (h : OnG v K) : ∃ cs, v = .agg cs ∧ K cs := by
  cases v with
  | agg cs => exact ⟨cs, rfl, h⟩
  | _ => exact h.elim
variable {C : Cells}
theorem fa_spec {E : Paths} {F : Fr} {g : Option (Nat × Bool)} {s x f r off b : Nat} (h : faOk P E g s x f r off = true) (hE : PE E F) (hg : grd g F) (hr : F r = .pointer (some ⟨b, 0, none⟩)) : ∃ o, fieldOff P s f = some o ∧ o ≤ off ∧ F x = .pointer (some ⟨b, off - o, none⟩) := by
  unfold faOk at h
  cases hfo : fieldOff P s f with
  | none => rw [hfo] at h; cases h
  | some o =>
    rw [hfo] at h
    simp only [Bool.and_eq_true, decide_eq_true_eq] at h
    exact ⟨o, rfl, h.1, reach_spec h.2 hE hg hr⟩
theorem fa_no {E : Paths} {F : Fr} {g : Option (Nat × Bool)} {d c off : Nat} (hE : PE E F) (hgd : (match g with | some (j, _) => j != d | none => true) = true) (hg : ¬ grd g F) : PE ((d, c, off, g) :: kill d E) (upd F d undef) := fun y hy hgy => by
  rcases List.mem_cons.1 hy with rfl | hy
  · refine absurd ((grd_congr fun j w e => upd_ne F undef ?_).1 hgy) hg
    simp only at e
    subst e
    simpa using hgd
  · exact hE.kill d _ y hy hgy
theorem cell_ldw {F G : Fr} {H : SHeap} {φ : Nat → Option SObj} {E : Paths} {g : Option (Nat × Bool)} {t x c : Nat} (hR : ZRel P C F G H φ) (hc : C.lookup c = some t) (hre : reach E g x c 0 = true) (hE : PE E F) (hg : grd g F) (hp : isPtr (F c) = true) : sop P (fev F) (ov φ H) (.load t (.tmp x)) = some (G c, ov φ H) := by
  obtain ⟨b, p1, p2, p3, p4, p5⟩ := hR.at hc hp
  exact sop_ldw (b := b) (reach_spec hre hE hg p1) p4 p3
theorem cell_ld {F G : Fr} {H : SHeap} {φ : Nat → Option SObj} {E : Paths} {g : Option (Nat × Bool)} {t x c e off : Nat} {K : Value → Prop} (hR : ZRel P C F G H φ) (hc : C.lookup c = some e) (hre : reach E g x c off = true) (hE : PE E F) (hg : grd g F)
    (h : Chk (isPtr (F c) = true) (OnG (G c) fun cs => Get (aggB P t) fun a => Br a (Get (sz? P t) fun n => Chk (off + n ≤ cs.size) (K (.agg ((cs.toList.drop off).take n).toArray))) (Get cs.toList[off]? fun v => K v))) : ∃ v, sop P (fev F) (ov φ H) (.load t (.tmp x)) = some (v, ov φ H) ∧ K v := by
  obtain ⟨hp, h⟩ := h
  obtain ⟨b, p1, p2, p3, p4, p5⟩ := hR.at hc hp
  obtain ⟨cs, hcs, h⟩ := ong_of h
  have hx := reach_spec hre hE hg p1
  have hca : cellsAt (ov φ H) b = some cs.toList := by unfold cellsAt; rw [p4, hcs]; rfl
  obtain ⟨a, ha, h⟩ := get_some_of h
  cases a with
  | true =>
    obtain ⟨n, hn, hfit, hK⟩ := get_some_of h
    exact ⟨_, by simp only [sop, fev, hx, hca, ha, hn]; rw [if_pos (by simpa using hfit)], hK⟩
  | false =>
    obtain ⟨v, hv, hK⟩ := get_some_of h
    exact ⟨v, by simp only [sop, fev, hx, hca, ha, hv]; rfl, hK⟩
theorem cell_stw {F G : Fr} {H : SHeap} {φ : Nat → Option SObj} {E : Paths} {g : Option (Nat × Bool)} {t x c : Nat} {y : Operand} (hR : ZRel P C F G H φ) (hc : C.lookup c = some t) (hre : reach E g x c 0 = true) (hE : PE E F) (hg : grd g F) (hp : isPtr (F c) = true) (hw : Whole P t (fev F y)) :
    ∃ φ1, sop P (fev F) (ov φ H) (.store t (.tmp x) y) = some (undef, ov φ1 H) ∧ ZRel P C F (upd G c (fev F y)) H φ1 := by
  obtain ⟨b, p1, p2, p3, p4, p5⟩ := hR.at hc hp
  have hx := reach_spec hre hE hg p1
  have hsz : (fev F y).cells.size = (G c).cells.size := by have := p3.1; rw [hw.1] at this; exact Option.some.inj this
  have hs := sop_fst (P := P) (ρ := fev F) (x := .tmp x) (y := y) hx p4 hw.1 (by simp; omega) hw.2.1
  obtain ⟨q1, q2⟩ := hR.set hc p1 hw
  refine ⟨_, ?_, q1⟩
  rw [hs, q2]
  have : spl (G c).cells.toList 0 (fev F y).cells.toList = (fev F y).cells.toList := by
    simp only [spl, List.take_zero, List.nil_append, Nat.zero_add]
    rw [List.drop_eq_nil_of_le (by simp; omega), List.append_nil]
  rw [this]
theorem cell_st {F G : Fr} {H : SHeap} {φ : Nat → Option SObj} {E : Paths} {g : Option (Nat × Bool)} {t x c e off : Nat} {y : Operand} {K : Value → Prop} (hR : ZRel P C F G H φ) (hc : C.lookup c = some e) (hre : reach E g x c off = true) (hE : PE E F) (hg : grd g F)
    (h : Chk (isPtr (F c) = true) (OnG (G c) fun cs => Chk (sz? P t = some (fev F y).cells.size ∧ off + (fev F y).cells.size ≤ cs.size ∧ ((fev F y).cells.toList.all (·.oneCell')) = true) (K (.agg (wrc cs.toList off (fev F y).cells.toList).toArray)))) :
    ∃ φ1 v, sop P (fev F) (ov φ H) (.store t (.tmp x) y) = some (undef, ov φ1 H) ∧ ZRel P C F (upd G c v) H φ1 ∧ K v := by
  obtain ⟨hp, h⟩ := h
  obtain ⟨b, p1, p2, p3, p4, p5⟩ := hR.at hc hp
  obtain ⟨cs, hcs, ⟨h1, h2, h3⟩, hK⟩ := ong_of h
  have hx := reach_spec hre hE hg p1
  have hs := sop_fst (P := P) (ρ := fev F) (x := .tmp x) (y := y) hx p4 h1 (by rw [hcs]; simpa [Value.cells] using h2) h3
  rw [hcs] at hs p3
  rw [wrc_eq (by simpa using h2)] at hK
  obtain ⟨q1, q2⟩ := hR.set hc p1 (p3.splice (vs := (fev F y).cells.toList) (by simpa using h2) h3)
  refine ⟨_, _, ?_, q1, hK⟩
  rw [hs, q2]
  rfl
theorem zw_sound : ∀ (l : List ZItem) (E : Paths) (F G : Fr) (H : SHeap) (φ : Nat → Option SObj) (Q : Fr → Fr → SHeap → Prop), zok P C false E l = true → ZRel P C F G H φ → PE E F → ZW P l F G H Q →
    XW P (zflat l) F (ov φ H) fun F1 H1 => ∃ G1 H2 φ1, H1 = ov φ1 H2 ∧ ZRel P C F1 G1 H2 φ1 ∧ Q F1 G1 H2
  | [], E, F, G, H, φ, Q, hk, hR, hE, h => ⟨G, H, φ, rfl, hR, h⟩
  | .xs l :: r, E, F, G, H, φ, Q, hk, hR, hE, h => by
    simp only [zok, Bool.and_eq_true] at hk
    simp only [zflat, ZItem.back]
    refine XW.append (XW.mono (fun F1 H1 hh => ?_) (XW.ovr hR.fit (XW.keep h)))
    obtain ⟨H', rfl, hf, hz, hF⟩ := hh
    have hFC : ∀ r e, C.lookup r = some e → F1 r = F r := fun r e hr => hF r fun o ho => by
      have := List.all_eq_true.1 hk.1 o ho
      cases hd : o.d with
      | none => simp
      | some d => rw [hd] at this; rintro ⟨rfl⟩; simp [dstFree, hasC, hr] at this
    exact zw_sound r _ F1 G H' φ Q hk.2 (hR.congr hFC hf) (hE.kills hF) hz
  | .al c e :: r, E, F, G, H, φ, Q, hk, hR, hE, h => by
    simp only [zok, Bool.and_eq_true, beq_iff_eq] at hk
    obtain ⟨z, hz, ⟨hzf, hw⟩, hK⟩ := get_some_of h
    obtain ⟨q1, q2⟩ := hR.new hk.1 hw
    show XW P (al c e :: zflat r) F (ov φ H) _
    rw [xw_al]
    simp only [hz]
    refine ⟨⟨hzf, by rw [hw.1]; rfl⟩, ?_⟩
    rw [ov_len, ← q2]
    exact zw_sound r _ _ _ _ _ Q hk.2 q1 (hE.kill c _) hK
  | .bx c e y :: r, E, F, G, H, φ, Q, hk, hR, hE, h => by
    simp only [zok, Bool.and_eq_true, beq_iff_eq] at hk
    obtain ⟨hw, hK⟩ := h
    obtain ⟨q1, q2⟩ := hR.new hk.1 hw
    show XW P (bx c e y :: zflat r) F (ov φ H) _
    rw [x_bx]
    refine ⟨by rw [hw.1]; rfl, ?_⟩
    rw [ov_len, ← q2]
    exact zw_sound r _ _ _ _ _ Q hk.2 q1 (hE.kill c _) hK
  | .fa g d s x f c off :: r, E, F, G, H, φ, Q, hk, hR, hE, h => by
    simp only [zok, Bool.and_eq_true, Bool.not_eq_true'] at hk
    obtain ⟨⟨⟨⟨hd, hc⟩, hfa⟩, hgd⟩, hr⟩ := hk
    obtain ⟨e, hce⟩ := hasC_spec hc
    have hdc : c ≠ d := fun e' => by subst e'; rw [hc] at hd; cases hd
    simp only [ZW] at h
    refine xw_zg (h.imp (fun hg hK => ?_) fun hg hK => ?_)
    · obtain ⟨hp, hK⟩ := hK
      have hE' : PE ((d, c, off, g) :: kill d E) (upd F d (padd (F c) off)) := fun y hy hgy => by
        rcases List.mem_cons.1 hy with rfl | hy
        · simp only; rw [upd_same, upd_ne _ _ hdc]
        · exact hE.kill d _ y hy hgy
      have hrec := zw_sound r _ _ _ _ _ Q hr (hR.updF hd (padd (F c) off)) hE' hK
      obtain ⟨b, p1, -⟩ := hR.at hce hp
      obtain ⟨o, hfo, ho, hx⟩ := fa_spec hfa hE hg p1
      refine xw_fad hx hfo ?_
      rw [p1] at hrec
      simp only [padd, Nat.zero_add] at hrec
      rw [show off - o + o = off by omega]
      exact hrec
    · exact zw_sound r _ _ _ _ _ Q hr (hR.updF hd undef) (fa_no hE hgd hg) hK
  | .ldw g d t x c :: r, E, F, G, H, φ, Q, hk, hR, hE, h => by
    simp only [zok, Bool.and_eq_true, Bool.not_eq_true', beq_iff_eq] at hk
    obtain ⟨⟨⟨hd, hc⟩, hre⟩, hr⟩ := hk
    simp only [ZW] at h
    refine xw_zg (h.imp (fun hg hK => ?_) fun hg hK => ?_)
    · obtain ⟨hp, hK⟩ := hK
      exact xw_load (cell_ldw hR hc hre hE hg hp) (zw_sound r _ _ _ _ _ Q hr (hR.updF hd (G c)) (hE.kill d _) hK)
    · exact zw_sound r _ _ _ _ _ Q hr (hR.updF hd undef) (hE.kill d _) hK
  | .ld g d t x c off :: r, E, F, G, H, φ, Q, hk, hR, hE, h => by
    simp only [zok, Bool.and_eq_true, Bool.not_eq_true'] at hk
    obtain ⟨⟨⟨hd, hc⟩, hre⟩, hr⟩ := hk
    obtain ⟨e, hce⟩ := hasC_spec hc
    simp only [ZW] at h
    refine xw_zg (h.imp (fun hg hK => ?_) fun hg hK => ?_)
    · obtain ⟨v, hs, hKv⟩ := cell_ld (K := fun v => ZW P r (upd F d v) G H Q) hR hce hre hE hg hK
      exact xw_load hs (zw_sound r _ _ _ _ _ Q hr (hR.updF hd v) (hE.kill d _) hKv)
    · exact zw_sound r _ _ _ _ _ Q hr (hR.updF hd undef) (hE.kill d _) hK
  | .stw b g t x y c :: r, E, F, G, H, φ, Q, hk, hR, hE, h => by
    simp only [zok, Bool.and_eq_true, beq_iff_eq, Bool.or_false] at hk
    obtain ⟨⟨⟨hb, hc⟩, hre⟩, hr⟩ := hk
    have hb : b = true := by simpa using hb
    subst hb
    simp only [ZW] at h
    refine xw_zg (h.imp (fun hg hK => ?_) fun hg hK => ?_)
    · obtain ⟨⟨hp, hw⟩, hK⟩ := hK
      obtain ⟨φ1, hs, hR1⟩ := cell_stw (y := y) hR hc hre hE hg hp hw
      exact xw_store hs (zw_sound r _ _ _ _ _ Q hr hR1 hE hK)
    · exact zw_sound r _ _ _ _ _ Q hr hR hE hK
  | .st b g t x y c off :: r, E, F, G, H, φ, Q, hk, hR, hE, h => by
    simp only [zok, Bool.and_eq_true] at hk
    obtain ⟨⟨⟨hb, hc⟩, hre⟩, hr⟩ := hk
    have hb : b = true := by simpa using hb
    subst hb
    obtain ⟨e, hce⟩ := hasC_spec hc
    simp only [ZW] at h
    refine xw_zg (h.imp (fun hg hK => ?_) fun hg hK => ?_)
    · obtain ⟨φ1, v, hs, hR1, hK⟩ := cell_st (y := y) (K := fun v => ZW P r F (upd G c v) H Q) hR hce hre hE hg hK
      exact xw_store hs (zw_sound r _ _ _ _ _ Q hr hR1 hE hK)
    · exact zw_sound r _ _ _ _ _ Q hr hR hE hK
theorem xs_lx {F : Fr} {H : SHeap} {b b' : Bool} {R W : List Nat} {K : Value → SHeap → Prop} {op : Op} (hq : quietOp op = true) (h : XS P b F H K op) : LX P b' (fev F) H R W (fun v H1 R1 W1 => R1 = R ∧ W1 = W ∧ K v H1) op := by
  have main : mxOp op = false → (match sop P (fev F) H op with
      | some (v, H1) => (isStore op = true → b = true) ∧ K v H1
      | none => mxOp op = true ∧ ∃ v H1, MQ P (fev F) H op v H1 ∧ (b = true ∨ Ext H H1) ∧ K v H1) → (match sop P (fev F) H op with | some (v, H1) => R = R ∧ W = W ∧ K v H1 | none => False) := by
    intro hm
    cases sop P (fev F) H op with
    | some p => exact fun h => ⟨rfl, rfl, h.2⟩
    | none => intro h; rw [hm] at h; cases h.1
  cases op with
  | load t x => cases hq
  | store t x y => cases hq
  | call c =>
    obtain ⟨callee, args, ats⟩ := c
    cases callee with
    | value f => cases hq
    | invoke r m => exact main rfl h
    | builtin bi => exact main (by simpa [quietOp] using hq) h
  | _ => exact main (by simpa [quietOp] using hq) h
theorem XL.append : ∀ {l l' : List XOp} {F : Fr} {H : SHeap} {R W : List Nat} {Q : Fr → SHeap → Prop} {b : Bool}, (∀ o ∈ l, quietOp o.op = true) → XW P l F H (fun F1 H1 => XL P l' F1 H1 R W Q) → XL P (l ++ l') F H R W Q
  | [], l', F, H, R, W, Q, b, hq, h => h
  | x :: l, l', F, H, R, W, Q, b, hq, h => by
    have hx := hq x List.mem_cons_self
    have hl : ∀ o ∈ l, quietOp o.op = true := fun o ho => hq o (List.mem_cons_of_mem _ ho)
    simp only [List.cons_append, XL]
    simp only [XW] at h
    split
    · rename_i hg
      rw [hg] at h
      exact LX.mono (fun v H1 R1 W1 ⟨e1, e2, hh⟩ => by subst e1 e2; exact XL.append (b := b) hl hh) (xs_lx hx h)
    · rename_i j w hg
      rw [hg] at h
      simp only at h
      split
      · rename_i hb
        rw [if_pos hb] at h
        exact LX.mono (fun v H1 R1 W1 ⟨e1, e2, hh⟩ => by subst e1 e2; exact XL.append (b := b) hl hh) (xs_lx hx h)
      · rename_i hb
        rw [if_neg hb] at h
        exact XL.append (b := b) hl h
theorem xl_fad {s f b o off : Nat} {x : Nat} {d : Nat} {r : List XOp} {F : Fr} {H : SHeap} {R W : List Nat} {Q : Fr → SHeap → Prop} (hx : F x = .pointer (some ⟨b, off, none⟩)) (hf : fieldOff P s f = some o) (hk : XL P r (upd F d (.pointer (some ⟨b, off + o, none⟩))) H R W Q) : XL P (⟨true, none, some d, .fieldAddr s (.tmp x) f⟩ :: r) F H R W Q := by
  have hs : sop P (fev F) H (.fieldAddr s (.tmp x) f) = some (.pointer (some ⟨b, off + o, none⟩), H) := by simp only [sop, fev, hx, hf, Option.map_some]
  simp only [XL, LX, hs]
  exact hk
theorem xl_load {t b i : Nat} {x : Operand} {d : Option Nat} {r : List XOp} {F : Fr} {H H1 : SHeap} {R W : List Nat} {Q : Fr → SHeap → Prop} {v : Value} (hx : fev F x = .pointer (some ⟨b, i, none⟩)) (hW : b ∉ W) (h : sop P (fev F) H (.load t x) = some (v, H1)) (hk : XL P r (fput F d v) H1 (b :: R) W Q) : XL P (⟨true, none, d, .load t x⟩ :: r) F H R W Q := by
  simp only [XL, LX, hx, h]
  exact ⟨hW, hk⟩
theorem xl_store {fl : Bool} {t b i : Nat} {x y : Operand} {d : Option Nat} {r : List XOp} {F : Fr} {H H1 : SHeap} {R W : List Nat} {Q : Fr → SHeap → Prop} {v : Value} (hx : fev F x = .pointer (some ⟨b, i, none⟩)) (hW : fl = true ∨ (b ∉ W ∧ b ∉ R)) (h : sop P (fev F) H (.store t x y) = some (v, H1)) (hk : XL P r (fput F d v) H1 R (if fl = true then W else b :: W) Q) : XL P (⟨fl, none, d, .store t x y⟩ :: r) F H R W Q := by
  simp only [XL, LX, hx, h]
  exact ⟨hW, hk⟩
def RowsOf (C : Cells) (F : Fr) (Rr R : List Nat) : Prop := ∀ b ∈ R, ∃ c e, c ∈ Rr ∧ C.lookup c = some e ∧ F c = .pointer (some ⟨b, 0, none⟩)
theorem RowsOf.not {F G : Fr} {H : SHeap} {φ : Nat → Option SObj} {Rr R : List Nat} {c e b : Nat} (h : RowsOf C F Rr R) (hR : ZRel P C F G H φ) (hc : C.lookup c = some e) (hF : F c = .pointer (some ⟨b, 0, none⟩)) (hn : c ∉ Rr) : b ∉ R := fun hb => by
  obtain ⟨c', e', h1, h2, h3⟩ := h b hb
  have : c' ≠ c := fun e => hn (e ▸ h1)
  exact hR.inj c' c e' e b h2 hc this h3 hF
theorem RowsOf.cons {F : Fr} {Rr R : List Nat} {c e b : Nat} (h : RowsOf C F Rr R) (hc : C.lookup c = some e) (hF : F c = .pointer (some ⟨b, 0, none⟩)) : RowsOf C F (c :: Rr) (b :: R) := fun b' hb => by
  rcases List.mem_cons.1 hb with rfl | hb
  · exact ⟨c, e, List.mem_cons_self, hc, hF⟩
  · obtain ⟨c', e', h1, h2, h3⟩ := h b' hb
    exact ⟨c', e', List.mem_cons_of_mem _ h1, h2, h3⟩
theorem RowsOf.congr {F F1 : Fr} {Rr R : List Nat} (h : RowsOf C F Rr R) (hF : ∀ r e, C.lookup r = some e → F1 r = F r) : RowsOf C F1 Rr R := fun b hb => by
  obtain ⟨c, e, h1, h2, h3⟩ := h b hb
  exact ⟨c, e, h1, h2, by rw [hF c e h2]; exact h3⟩
theorem updF_C {F : Fr} {d : Nat} {v : Value} (hd : hasC C d = false) : ∀ r e, C.lookup r = some e → upd F d v r = F r := fun r e hr => upd_ne _ _ (by rintro rfl; simp [hasC, hr] at hd)
theorem zl_sound : ∀ (l : List ZItem) (E : Paths) (Rr Wr R W : List Nat) (F G : Fr) (H : SHeap) (φ : Nat → Option SObj) (Q : Fr → Fr → SHeap → Prop), zok P C true E l = true → zokL Rr Wr l = true → RowsOf C F Rr R → RowsOf C F Wr W → ZRel P C F G H φ → PE E F → ZW P l F G H Q →
    XL P (zflat l) F (ov φ H) R W fun F1 H1 => ∃ G1 H2 φ1, H1 = ov φ1 H2 ∧ ZRel P C F1 G1 H2 φ1 ∧ Q F1 G1 H2
  | [], E, Rr, Wr, R, W, F, G, H, φ, Q, hk, hkL, hRR, hWW, hR, hE, h => ⟨G, H, φ, rfl, hR, h⟩
  | .xs l :: r, E, Rr, Wr, R, W, F, G, H, φ, Q, hk, hkL, hRR, hWW, hR, hE, h => by
    simp only [zok, Bool.and_eq_true] at hk
    simp only [zokL, Bool.and_eq_true] at hkL
    simp only [zflat, ZItem.back]
    refine XL.append (b := true) (fun o ho => List.all_eq_true.1 hkL.1 o ho) (XW.mono (fun F1 H1 hh => ?_) (XW.ovr hR.fit (XW.keep h)))
    obtain ⟨H', rfl, hf, hz, hF⟩ := hh
    have hFC : ∀ r e, C.lookup r = some e → F1 r = F r := fun r e hr => hF r fun o ho => by
      have := List.all_eq_true.1 hk.1 o ho
      cases hd : o.d with
      | none => simp
      | some d => rw [hd] at this; rintro ⟨rfl⟩; simp [dstFree, hasC, hr] at this
    exact zl_sound r _ Rr Wr R W F1 G H' φ Q hk.2 hkL.2 (hRR.congr hFC) (hWW.congr hFC) (hR.congr hFC hf) (hE.kills hF) hz
  | .al c e :: r, E, Rr, Wr, R, W, F, G, H, φ, Q, hk, hkL, hRR, hWW, hR, hE, h => by cases hkL
  | .bx c e y :: r, E, Rr, Wr, R, W, F, G, H, φ, Q, hk, hkL, hRR, hWW, hR, hE, h => by cases hkL
  | .fa g d s x f c off :: r, E, Rr, Wr, R, W, F, G, H, φ, Q, hk, hkL, hRR, hWW, hR, hE, h => by
    simp only [zok, Bool.and_eq_true, Bool.not_eq_true'] at hk
    simp only [zokL] at hkL
    obtain ⟨⟨⟨⟨hd, hc⟩, hfa⟩, hgd⟩, hr⟩ := hk
    obtain ⟨e, hce⟩ := hasC_spec hc
    have hdc : c ≠ d := fun e' => by subst e'; rw [hc] at hd; cases hd
    simp only [ZW] at h
    refine xl_zg (h.imp (fun hg hK => ?_) fun hg hK => ?_)
    · obtain ⟨hp, hK⟩ := hK
      have hE' : PE ((d, c, off, g) :: kill d E) (upd F d (padd (F c) off)) := fun y hy hgy => by
        rcases List.mem_cons.1 hy with rfl | hy
        · simp only; rw [upd_same, upd_ne _ _ hdc]
        · exact hE.kill d _ y hy hgy
      have hrec := zl_sound r _ Rr Wr R W _ _ _ _ Q hr hkL (hRR.congr (updF_C hd)) (hWW.congr (updF_C hd)) (hR.updF hd (padd (F c) off)) hE' hK
      obtain ⟨b, p1, -⟩ := hR.at hce hp
      obtain ⟨o, hfo, ho, hx⟩ := fa_spec hfa hE hg p1
      refine xl_fad hx hfo ?_
      rw [p1] at hrec
      simp only [padd, Nat.zero_add] at hrec
      rw [show off - o + o = off by omega]
      exact hrec
    · exact zl_sound r _ Rr Wr R W _ _ _ _ Q hr hkL (hRR.congr (updF_C hd)) (hWW.congr (updF_C hd)) (hR.updF hd undef) (fa_no hE hgd hg) hK
  | .ldw g d t x c :: r, E, Rr, Wr, R, W, F, G, H, φ, Q, hk, hkL, hRR, hWW, hR, hE, h => by
    simp only [zok, Bool.and_eq_true, Bool.not_eq_true', beq_iff_eq] at hk
    simp only [zokL, Bool.and_eq_true, Bool.not_eq_true'] at hkL
    obtain ⟨⟨⟨hd, hc⟩, hre⟩, hr⟩ := hk
    simp only [ZW] at h
    refine xl_zg (h.imp (fun hg hK => ?_) fun hg hK => ?_)
    · obtain ⟨hp, hK⟩ := hK
      obtain ⟨b, p1, -⟩ := hR.at hc hp
      exact xl_load (i := 0) (reach_spec hre hE hg p1) (hWW.not hR hc p1 (by simpa using hkL.1)) (cell_ldw hR hc hre hE hg hp)
        (zl_sound r _ (c :: Rr) Wr _ W _ _ _ _ Q hr hkL.2 ((hRR.cons hc p1).congr (updF_C hd)) (hWW.congr (updF_C hd)) (hR.updF hd (G c)) (hE.kill d _) hK)
    · refine zl_sound r _ (c :: Rr) Wr R W _ _ _ _ Q hr hkL.2 (fun b hb => ?_) (hWW.congr (updF_C hd)) (hR.updF hd undef) (hE.kill d _) hK
      obtain ⟨c', e', h1, h2⟩ := (hRR.congr (updF_C hd)) b hb
      exact ⟨c', e', List.mem_cons_of_mem _ h1, h2⟩
  | .ld g d t x c off :: r, E, Rr, Wr, R, W, F, G, H, φ, Q, hk, hkL, hRR, hWW, hR, hE, h => by
    simp only [zok, Bool.and_eq_true, Bool.not_eq_true'] at hk
    simp only [zokL, Bool.and_eq_true, Bool.not_eq_true'] at hkL
    obtain ⟨⟨⟨hd, hc⟩, hre⟩, hr⟩ := hk
    obtain ⟨e, hce⟩ := hasC_spec hc
    simp only [ZW] at h
    refine xl_zg (h.imp (fun hg hK => ?_) fun hg hK => ?_)
    · obtain ⟨b, p1, -⟩ := hR.at hce hK.1
      obtain ⟨v, hs, hKv⟩ := cell_ld (K := fun v => ZW P r (upd F d v) G H Q) hR hce hre hE hg hK
      exact xl_load (i := off) (reach_spec hre hE hg p1) (hWW.not hR hce p1 (by simpa using hkL.1)) hs
        (zl_sound r _ (c :: Rr) Wr _ W _ _ _ _ Q hr hkL.2 ((hRR.cons hce p1).congr (updF_C hd)) (hWW.congr (updF_C hd)) (hR.updF hd v) (hE.kill d _) hKv)
    · refine zl_sound r _ (c :: Rr) Wr R W _ _ _ _ Q hr hkL.2 (fun b hb => ?_) (hWW.congr (updF_C hd)) (hR.updF hd undef) (hE.kill d _) hK
      obtain ⟨c', e', h1, h2⟩ := (hRR.congr (updF_C hd)) b hb
      exact ⟨c', e', List.mem_cons_of_mem _ h1, h2⟩
  | .stw fl g t x y c :: r, E, Rr, Wr, R, W, F, G, H, φ, Q, hk, hkL, hRR, hWW, hR, hE, h => by
    simp only [zok, Bool.and_eq_true, beq_iff_eq] at hk
    simp only [zokL, Bool.and_eq_true, Bool.or_eq_true, Bool.not_eq_true'] at hkL
    obtain ⟨⟨⟨-, hc⟩, hre⟩, hr⟩ := hk
    simp only [ZW] at h
    refine xl_zg (h.imp (fun hg hK => ?_) fun hg hK => ?_)
    · obtain ⟨⟨hp, hw⟩, hK⟩ := hK
      obtain ⟨b, p1, -⟩ := hR.at hc hp
      obtain ⟨φ1, hs, hR1⟩ := cell_stw (y := y) hR hc hre hE hg hp hw
      refine xl_store (i := 0) (reach_spec hre hE hg p1) (hkL.1.imp id fun q => ⟨hWW.not hR hc p1 (by simpa using q.1), hRR.not hR hc p1 (by simpa using q.2)⟩) hs
        (zl_sound r _ Rr (if fl = true then Wr else c :: Wr) R _ _ _ _ _ Q hr hkL.2 hRR ?_ hR1 hE hK)
      cases fl with
      | true => exact hWW
      | false => exact hWW.cons hc p1
    · refine zl_sound r _ Rr (if fl = true then Wr else c :: Wr) R W _ _ _ _ Q hr hkL.2 hRR (fun b hb => ?_) hR hE hK
      obtain ⟨c', e', h1, h2⟩ := hWW b hb
      cases fl with
      | true => exact ⟨c', e', h1, h2⟩
      | false => exact ⟨c', e', List.mem_cons_of_mem _ h1, h2⟩
  | .st fl g t x y c off :: r, E, Rr, Wr, R, W, F, G, H, φ, Q, hk, hkL, hRR, hWW, hR, hE, h => by
    simp only [zok, Bool.and_eq_true] at hk
    simp only [zokL, Bool.and_eq_true, Bool.or_eq_true, Bool.not_eq_true'] at hkL
    obtain ⟨⟨⟨-, hc⟩, hre⟩, hr⟩ := hk
    obtain ⟨e, hce⟩ := hasC_spec hc
    simp only [ZW] at h
    refine xl_zg (h.imp (fun hg hK => ?_) fun hg hK => ?_)
    · obtain ⟨b, p1, -⟩ := hR.at hce hK.1
      obtain ⟨φ1, v, hs, hR1, hK⟩ := cell_st (y := y) (K := fun v => ZW P r F (upd G c v) H Q) hR hce hre hE hg hK
      refine xl_store (i := off) (reach_spec hre hE hg p1) (hkL.1.imp id fun q => ⟨hWW.not hR hce p1 (by simpa using q.1), hRR.not hR hce p1 (by simpa using q.2)⟩) hs
        (zl_sound r _ Rr (if fl = true then Wr else c :: Wr) R _ _ _ _ _ Q hr hkL.2 hRR ?_ hR1 hE hK)
      cases fl with
      | true => exact hWW
      | false => exact hWW.cons hce p1
    · refine zl_sound r _ Rr (if fl = true then Wr else c :: Wr) R W _ _ _ _ Q hr hkL.2 hRR (fun b hb => ?_) hR hE hK
      obtain ⟨c', e', h1, h2⟩ := hWW b hb
      cases fl with
      | true => exact ⟨c', e', h1, h2⟩
      | false => exact ⟨c', e', List.mem_cons_of_mem _ h1, h2⟩
theorem OnG.imp {v : Value} {K K' : Array Value → Prop} (h : OnG v K) (hk : ∀ cs, K cs → K' cs) : OnG v K' := by
  obtain ⟨cs, rfl, h⟩ := ong_of h
  exact hk cs h
theorem Get.imp {α : Type} {o : Option α} {K K' : α → Prop} (h : Get o K) (hk : ∀ v, K v → K' v) : Get o K' := by
  obtain ⟨v, rfl, h⟩ := get_some_of h
  exact hk v h
theorem Chk.imp {c K K' : Prop} (h : Chk c K) (hk : K → K') : Chk c K' := ⟨h.1, hk h.2⟩
theorem Br.imp {b : Bool} {A B A' B' : Prop} (h : Br b A B) (h1 : A → A') (h2 : B → B') : Br b A' B' := by
  cases b
  · exact h2 h
  · exact h1 h
theorem ZW.keep : ∀ {l : List ZItem} {m k : Nat} {F G : Fr} {H : SHeap} {Q Q' : Fr → Fr → SHeap → Prop}, (l.all (asI m k)) = true → (∀ F1 G1 H1, (∀ r, inM m r = false → F1 r = F r) → (∀ r, inM k r = false → G1 r = G r) → Q F1 G1 H1 → Q' F1 G1 H1) → ZW P l F G H Q → ZW P l F G H Q'
  | [], m, k, F, G, H, Q, Q', ha, hq, h => hq _ _ _ (fun _ _ => rfl) (fun _ _ => rfl) h
  | i :: l, m, k, F, G, H, Q, Q', ha, hq, h => by
    simp only [List.all_cons, Bool.and_eq_true] at ha
    have upF : ∀ {d : Nat} {v : Value} {G' : Fr} {H' : SHeap}, inM m d = true → (∀ r, inM k r = false → G' r = G r) → ZW P l (upd F d v) G' H' Q → ZW P l (upd F d v) G' H' Q' := fun {d v G' H'} hd hG h1 =>
      ZW.keep ha.2 (fun F1 G1 H1 f1 g1 => hq F1 G1 H1 (fun r hr => by rw [f1 r hr, upd_ne]; rintro rfl; rw [hd] at hr; cases hr) (fun r hr => by rw [g1 r hr, hG r hr])) h1
    have upG : ∀ {c : Nat} {v : Value} {H' : SHeap}, inM k c = true → ZW P l F (upd G c v) H' Q → ZW P l F (upd G c v) H' Q' := fun {c v H'} hc h1 =>
      ZW.keep ha.2 (fun F1 G1 H1 f1 g1 => hq F1 G1 H1 f1 (fun r hr => by rw [g1 r hr, upd_ne]; rintro rfl; rw [hc] at hr; cases hr)) h1
    have neG : ∀ {c : Nat} {v : Value}, inM k c = true → ∀ r, inM k r = false → upd G c v r = G r := fun {c v} hc r hr => upd_ne _ _ (by rintro rfl; rw [hc] at hr; cases hr)
    cases i with
    | xs xl =>
      simp only [ZW] at h ⊢
      refine XW.mono (fun F1 H1 ⟨h1, hF⟩ => ZW.keep ha.2 (fun F2 G2 H2 f2 g2 => hq F2 G2 H2 (fun r hr => ?_) g2) h1) (XW.keep h)
      rw [f2 r hr, hF r fun o ho hd => ?_]
      have := List.all_eq_true.1 ha.1 o ho
      rw [hd] at this
      simp only [dstM] at this
      rw [this] at hr
      cases hr
    | al c e =>
      simp only [asI, Bool.and_eq_true] at ha
      simp only [ZW] at h ⊢
      exact h.imp fun z hz => hz.imp (upF ha.1.1 (neG ha.1.2))
    | bx c e y =>
      simp only [asI, Bool.and_eq_true] at ha
      simp only [ZW] at h ⊢
      exact h.imp (upF ha.1.1 (neG ha.1.2))
    | fa g d s x f c off =>
      simp only [ZW] at h ⊢
      exact h.imp (fun _ q => q.imp (upF ha.1 fun _ _ => rfl)) fun _ => upF ha.1 fun _ _ => rfl
    | ldw g d t x c =>
      simp only [ZW] at h ⊢
      exact h.imp (fun _ q => q.imp (upF ha.1 fun _ _ => rfl)) fun _ => upF ha.1 fun _ _ => rfl
    | ld g d t x c off =>
      simp only [ZW] at h ⊢
      exact h.imp (fun _ q => q.imp fun q => q.imp fun cs q => q.imp fun a q => q.imp (fun q => q.imp fun n q => q.imp (upF ha.1 fun _ _ => rfl)) fun q => q.imp fun v => upF ha.1 fun _ _ => rfl) fun _ => upF ha.1 fun _ _ => rfl
    | stw b g t x y c =>
      simp only [ZW] at h ⊢
      exact h.imp (fun _ q => q.imp (upG ha.1)) fun _ => ZW.keep ha.2 hq
    | st b g t x y c off =>
      simp only [ZW] at h ⊢
      exact h.imp (fun _ q => q.imp fun q => q.imp fun cs q => q.imp (upG ha.1)) fun _ => ZW.keep ha.2 hq
theorem ZX.keep : ∀ {x : ZCode} {m k : Nat} {F G : Fr} {H : SHeap} {Q Q' : SExit → Fr → Fr → SHeap → Prop}, asC m k x = true → (∀ e F1 G1 H1, (∀ r, inM m r = false → F1 r = F r) → (∀ r, inM k r = false → G1 r = G r) → Q e F1 G1 H1 → Q' e F1 G1 H1) → ZX P x F G H Q → ZX P x F G H Q'
  | .skip, m, k, F, G, H, Q, Q', ha, hq, h => hq _ _ _ _ (fun _ _ => rfl) (fun _ _ => rfl) h
  | .ret, m, k, F, G, H, Q, Q', ha, hq, h => hq _ _ _ _ (fun _ _ => rfl) (fun _ _ => rfl) h
  | .exit id, m, k, F, G, H, Q, Q', ha, hq, h => hq _ _ _ _ (fun _ _ => rfl) (fun _ _ => rfl) h
  | .seq x y, m, k, F, G, H, Q, Q', ha, hq, h => by
    simp only [asC, Bool.and_eq_true] at ha
    refine ZX.keep (x := x) ha.1 (fun e F1 G1 H1 f1 g1 h1 => ?_) h
    cases e with
    | normal => exact ZX.keep (x := y) ha.2 (fun e F2 G2 H2 f2 g2 => hq e F2 G2 H2 (fun r hr => by rw [f2 r hr, f1 r hr]) (fun r hr => by rw [g2 r hr, g1 r hr])) h1
    | exit id => exact hq _ _ _ _ f1 g1 h1
    | ret => exact hq _ _ _ _ f1 g1 h1
  | .cond c x y, m, k, F, G, H, Q, Q', ha, hq, h => by
    simp only [asC, Bool.and_eq_true] at ha
    simp only [ZX] at h ⊢
    cases hv : fev F c <;> rw [hv] at h <;> try exact h.elim
    rename_i b
    cases b with
    | true => exact ZX.keep (x := x) ha.1 hq h
    | false => exact ZX.keep (x := y) ha.2 hq h
  | .block id x, m, k, F, G, H, Q, Q', ha, hq, h => by
    simp only [asC] at ha
    refine ZX.keep (x := x) ha (fun e F1 G1 H1 f1 g1 h1 => ?_) h
    cases e with
    | normal => exact hq _ _ _ _ f1 g1 h1
    | ret => exact hq _ _ _ _ f1 g1 h1
    | exit id' =>
      simp only [blockZ] at h1 ⊢
      split
      · rename_i hi; rw [if_pos hi] at h1; exact hq _ _ _ _ f1 g1 h1
      · rename_i hi; rw [if_neg hi] at h1; exact hq _ _ _ _ f1 g1 h1
  | .loop m' k' x, m, k, F, G, H, Q, Q', ha, hq, h => by
    simp only [asC] at ha
    simp only [ZX] at h ⊢
    induction h with
    | round I hb hI ih =>
      rename_i F0 G0 H0
      refine .round (fun F1 G1 H1 => I F1 G1 H1 ∧ (∀ r, inM m r = false → F1 r = F0 r) ∧ ∀ r, inM k r = false → G1 r = G0 r) (ZX.keep (x := x) ha (fun e F1 G1 H1 f1 g1 h1 => ?_) hb) ?_
      · cases e with
        | normal => exact ⟨h1, f1, g1⟩
        | exit id => exact hq _ _ _ _ f1 g1 h1
        | ret => exact hq _ _ _ _ f1 g1 h1
      · rintro F1 G1 H1 ⟨h1, f1, g1⟩
        exact ih F1 G1 H1 h1 fun e F2 G2 H2 f2 g2 => hq e F2 G2 H2 (fun r hr => by rw [f2 r hr, f1 r hr]) (fun r hr => by rw [g2 r hr, g1 r hr])
  | .box m' k' x, m, k, F, G, H, Q, Q', ha, hq, h => ZX.keep (x := x) ha hq h
  | .ops l, m, k, F, G, H, Q, Q', ha, hq, h => ZW.keep ha (fun F1 G1 H1 => hq _ F1 G1 H1) h
  | .opsL l, m, k, F, G, H, Q, Q', ha, hq, h => ZW.keep ha (fun F1 G1 H1 => hq _ F1 G1 H1) h
theorem ZW.mono : ∀ {l : List ZItem} {F G : Fr} {H : SHeap} {Q Q' : Fr → Fr → SHeap → Prop}, (∀ F G H, Q F G H → Q' F G H) → ZW P l F G H Q → ZW P l F G H Q'
  | [], F, G, H, Q, Q', hq, h => hq _ _ _ h
  | i :: l, F, G, H, Q, Q', hq, h => by
    have ih : ∀ {F G : Fr} {H : SHeap}, ZW P l F G H Q → ZW P l F G H Q' := ZW.mono hq
    cases i <;> simp only [ZW] at h ⊢
    case xs xl => exact XW.mono (fun F1 H1 => ih) h
    case al => exact h.imp fun z hz => hz.imp ih
    case bx => exact h.imp ih
    case fa => exact h.imp (fun _ q => q.imp ih) fun _ => ih
    case ldw => exact h.imp (fun _ q => q.imp ih) fun _ => ih
    case ld => exact h.imp (fun _ q => q.imp fun q => q.imp fun cs q => q.imp fun a q => q.imp (fun q => q.imp fun n q => q.imp ih) fun q => q.imp fun v => ih) fun _ => ih
    case stw => exact h.imp (fun _ q => q.imp ih) fun _ => ih
    case st => exact h.imp (fun _ q => q.imp fun q => q.imp fun cs q => q.imp ih) fun _ => ih
theorem ZX.mono : ∀ {x : ZCode} {F G : Fr} {H : SHeap} {Q Q' : SExit → Fr → Fr → SHeap → Prop}, (∀ e F G H, Q e F G H → Q' e F G H) → ZX P x F G H Q → ZX P x F G H Q'
  | .skip, F, G, H, Q, Q', hq, h => hq _ _ _ _ h
  | .ret, F, G, H, Q, Q', hq, h => hq _ _ _ _ h
  | .exit id, F, G, H, Q, Q', hq, h => hq _ _ _ _ h
  | .seq x y, F, G, H, Q, Q', hq, h => by
    refine ZX.mono (x := x) (fun e F1 G1 H1 h1 => ?_) h
    cases e with
    | normal => exact ZX.mono (x := y) hq h1
    | exit id => exact hq _ _ _ _ h1
    | ret => exact hq _ _ _ _ h1
  | .cond c x y, F, G, H, Q, Q', hq, h => by
    simp only [ZX] at h ⊢
    cases hv : fev F c <;> rw [hv] at h <;> try exact h.elim
    rename_i b
    cases b with
    | true => exact ZX.mono (x := x) hq h
    | false => exact ZX.mono (x := y) hq h
  | .block id x, F, G, H, Q, Q', hq, h => by
    refine ZX.mono (x := x) (fun e F1 G1 H1 h1 => ?_) h
    cases e with
    | normal => exact hq _ _ _ _ h1
    | ret => exact hq _ _ _ _ h1
    | exit id' =>
      simp only [blockZ] at h1 ⊢
      split
      · rename_i hi; rw [if_pos hi] at h1; exact hq _ _ _ _ h1
      · rename_i hi; rw [if_neg hi] at h1; exact hq _ _ _ _ h1
  | .loop m' k' x, F, G, H, Q, Q', hq, h => by
    simp only [ZX] at h ⊢
    induction h with
    | round I hb hI ih =>
      refine .round I (ZX.mono (x := x) (fun e F1 G1 H1 h1 => ?_) hb) ih
      cases e with
      | normal => exact h1
      | exit id => exact hq _ _ _ _ h1
      | ret => exact hq _ _ _ _ h1
  | .box m' k' x, F, G, H, Q, Q', hq, h => ZX.mono (x := x) hq h
  | .ops l, F, G, H, Q, Q', hq, h => ZW.mono (fun F1 G1 H1 => hq _ F1 G1 H1) h
  | .opsL l, F, G, H, Q, Q', hq, h => ZW.mono (fun F1 G1 H1 => hq _ F1 G1 H1) h
theorem zx_sound : ∀ (z : ZCode) (F G : Fr) (H : SHeap) (φ : Nat → Option SObj) (Q : SExit → Fr → Fr → SHeap → Prop), zokC P C z = true → ZRel P C F G H φ → ZX P z F G H Q →
    XX P z.back F (ov φ H) fun e F1 H1 => ∃ G1 H2 φ1, H1 = ov φ1 H2 ∧ ZRel P C F1 G1 H2 φ1 ∧ Q e F1 G1 H2
  | .skip, F, G, H, φ, Q, hk, hR, h => ⟨G, H, φ, rfl, hR, h⟩
  | .ret, F, G, H, φ, Q, hk, hR, h => ⟨G, H, φ, rfl, hR, h⟩
  | .exit id, F, G, H, φ, Q, hk, hR, h => ⟨G, H, φ, rfl, hR, h⟩
  | .seq x y, F, G, H, φ, Q, hk, hR, h => by
    simp only [zokC, Bool.and_eq_true] at hk
    refine XX.mono (x := x.back) (fun e F1 H1 ⟨G1, H2, φ1, e1, hR1, hq⟩ => ?_) (zx_sound x F G H φ _ hk.1 hR h)
    cases e with
    | normal => rw [e1]; exact zx_sound y F1 G1 H2 φ1 Q hk.2 hR1 hq
    | exit id => exact ⟨G1, H2, φ1, e1, hR1, hq⟩
    | ret => exact ⟨G1, H2, φ1, e1, hR1, hq⟩
  | .cond c x y, F, G, H, φ, Q, hk, hR, h => by
    simp only [zokC, Bool.and_eq_true] at hk
    simp only [ZX] at h
    simp only [ZCode.back, XX]
    cases hv : fev F c <;> rw [hv] at h <;> try exact h.elim
    rename_i b
    cases b with
    | true => exact zx_sound x F G H φ Q hk.1 hR h
    | false => exact zx_sound y F G H φ Q hk.2 hR h
  | .block id x, F, G, H, φ, Q, hk, hR, h => by
    simp only [zokC] at hk
    refine XX.mono (x := x.back) (fun e F1 H1 ⟨G1, H2, φ1, e1, hR1, hq⟩ => ?_) (zx_sound x F G H φ _ hk hR h)
    cases e with
    | normal => exact ⟨G1, H2, φ1, e1, hR1, hq⟩
    | exit id' =>
      simp only [blockZ] at hq
      simp only [blockX]
      split
      · rename_i hi; rw [if_pos hi] at hq; exact ⟨G1, H2, φ1, e1, hR1, hq⟩
      · rename_i hi; rw [if_neg hi] at hq; exact ⟨G1, H2, φ1, e1, hR1, hq⟩
    | ret => exact ⟨G1, H2, φ1, e1, hR1, hq⟩
  | .loop m k x, F, G, H, φ, Q, hk, hR, h => by
    simp only [zokC, Bool.and_eq_true] at hk
    simp only [ZX] at h
    simp only [ZCode.back, XX]
    induction h generalizing φ with
    | round I hb hI ih =>
      refine .round (fun F1 H1 => ∃ G1 H2 φ1, H1 = ov φ1 H2 ∧ ZRel P C F1 G1 H2 φ1 ∧ I F1 G1 H2) (XX.mono (x := x.back) (fun e F1 H1 ⟨G1, H2, φ1, e1, hR1, hq⟩ => ?_) (zx_sound x _ _ _ φ _ hk.2 hR hb)) ?_
      · rintro F1 H1 ⟨G1, H2, φ1, e1, hR1, hq⟩
        rw [e1]
        exact ih F1 G1 H2 hq φ1 hR1
      · cases e with
        | normal => exact ⟨G1, H2, φ1, e1, hR1, hq⟩
        | exit id => exact ⟨G1, H2, φ1, e1, hR1, hq⟩
        | ret => exact ⟨G1, H2, φ1, e1, hR1, hq⟩
  | .box m k x, F, G, H, φ, Q, hk, hR, h => by
    simp only [zokC, Bool.and_eq_true] at hk
    exact zx_sound x F G H φ Q hk.2 hR h
  | .ops l, F, G, H, φ, Q, hk, hR, h => zw_sound l [] F G H φ _ hk hR (PE.nil F) h
  | .opsL l, F, G, H, φ, Q, hk, hR, h => by
    simp only [zokC, Bool.and_eq_true] at hk
    exact zl_sound l [] [] [] [] [] F G H φ _ hk.1 hk.2 (fun b hb => by simp at hb) (fun b hb => by simp at hb) hR (PE.nil F) h
theorem zr_sound {F G : Fr} {H : SHeap} {φ : Nat → Option SObj} (hR : ZRel P C F G H φ) : ∀ (rs : List ZRes) (K : List Value → Prop), zokR C rs = true → ZR F G rs K → XR P F (ov φ H) (rs.map ZRes.back) K
  | [], K, hk, h => h
  | .tmp i :: rs, K, hk, h => zr_sound hR rs _ (by simpa [zokR] using hk) h
  | .cell a ty :: rs, K, hk, h => by
    simp only [zokR, List.all_cons, Bool.and_eq_true, beq_iff_eq] at hk
    obtain ⟨hp, h⟩ := h
    obtain ⟨b, p1, p2, ⟨w1, w2, w3⟩, p4, p5⟩ := hR.at hk.1 hp
    have ih := zr_sound hR rs (fun vs => K (G a :: vs)) (by simpa [zokR] using hk.2) h
    simp only [List.map_cons, ZRes.back, XR, p1]
    have hc : cellsAt (ov φ H) b = some (G a).cells.toList := by unfold cellsAt; rw [p4]; rfl
    rw [hc]
    simp only
    split at w3
    · rename_i ha
      rw [w3]
      simp only [w1]
      refine ⟨by simp, ?_⟩
      have : (((G a).cells.toList.drop 0).take (G a).cells.size) = (G a).cells.toList := by rw [List.drop_zero, List.take_of_length_le (by simp)]
      rw [this]
      simp only [Array.toArray_toList]
      rw [← ag_cells ha]
      exact ih
    · rw [w3.1]
      simp only
      rw [w3.2]
      exact ih
def cutφ (φ : Nat → Option SObj) (n : Nat) : Nat → Option SObj := fun b => if b < n then none else φ b
theorem kill_rows {f : FuncId} {args : List Value} {v : Value} {H H1 : SHeap} {φ : Nat → Option SObj} (hf : Fit φ H1) (h : Run P (.call f args H) (.val v (ov φ H1))) : ∀ n, Run P (.call f args H) (.val v (ov (cutφ φ n) H1))
  | 0 => by
    have : cutφ φ 0 = φ := by funext b; simp [cutφ]
    rw [this]; exact h
  | n + 1 => by
    have ih := kill_rows hf h n
    cases hp : φ n with
    | none =>
      have : cutφ φ (n + 1) = cutφ φ n := by
        funext b
        unfold cutφ
        by_cases hb : b = n
        · subst hb; simp [hp]
        · by_cases hlt : b < n
          · rw [if_pos (by omega), if_pos hlt]
          · rw [if_neg (by omega), if_neg hlt]
      rw [this]; exact ih
    | some x =>
      obtain ⟨hd, e, l, cs, hx⟩ := hf n x hp
      have hlt := hf.lt hp
      have hat : (ov (cutφ φ n) H1)[n]? = some (.own e l cs) := by
        rw [ov_at, hd]
        simp [cutφ, hp, hx]
      have h2 := Run.callK ih ⟨e, l, cs, hat⟩
      have : (ov (cutφ φ n) H1).set n .dead = ov (cutφ φ (n + 1)) H1 := by
        apply List.ext_getElem?
        intro b
        by_cases hb : n = b
        · subst hb
          rw [List.getElem?_set_self (by rw [ov_len]; exact hlt), ov_at, hd]
          simp [cutφ]
        · rw [List.getElem?_set_ne hb, ov_at, ov_at]
          congr 1
          funext y
          unfold cutφ
          by_cases hl : b < n
          · rw [if_pos hl, if_pos (by omega)]
          · rw [if_neg hl, if_neg (by omega)]
      rw [← this]; exact h2
theorem cut_all {H1 : SHeap} {φ : Nat → Option SObj} (hf : Fit φ H1) : ov (cutφ φ H1.length) H1 = H1 := by
  apply List.ext_getElem?
  intro b
  rw [ov_at]
  by_cases hb : b < H1.length
  · simp [cutφ, hb]
  · rw [List.getElem?_eq_none (by omega)]; rfl
theorem SW.zinto {f : FuncId} {fn : Func} {z : ZFunc} {args : List Value} {H : SHeap} {Q : Value → SHeap → Prop} (hf : P.funcs[f]? = some fn) (hn : (fn.name == "runtime.NumGoroutine") = false) (hc : comp P fn = some z.back) (hz : (zokC P C z.code && zokR C z.results) = true)
    (hl : args.length ≤ fn.ntmps) (hC : (C.all fun p => decide (args.length ≤ p.1)) = true) (h : ZX P z.code (argF args) (fun _ => undef) H (retZ z.results Q)) : SW P f args H Q := by
  simp only [Bool.and_eq_true] at hz
  have hov : ov (fun _ => none) H = H := by
    apply List.ext_getElem?
    intro b
    rw [ov_at]
    cases H[b]? <;> rfl
  have hR : ZRel P C (argF args) (fun _ => undef) H (fun _ => none) := by
    have hu : ∀ r e, C.lookup r = some e → argF args r = undef := fun r e hr => by
      have := of_decide_eq_true (List.all_eq_true.1 hC _ (lookup_mem hr))
      simp only at this
      unfold argF
      rw [List.getD_eq_getElem?_getD, List.getElem?_eq_none this]
      rfl
    exact ⟨fun b x hb => (by cases hb), fun r e hr => .inl (hu r e hr), fun r r' e e' b hr hr' hne hF => by rw [hu r e hr] at hF; cases hF⟩
  have hx := zx_sound z.code _ _ _ _ _ hz.1 hR h
  rw [hov] at hx
  obtain ⟨v, H1, h1, h2, h3⟩ := SW.intoR (Q := fun v H1 => ∃ φ1 H2, H1 = ov φ1 H2 ∧ Fit φ1 H2 ∧ Q v H2) hf hn hc hl (XX.mono (x := z.code.back) (fun e F1 H1 ⟨G1, H2, φ1, e1, hR1, hq⟩ => by
    cases e with
    | normal =>
      rw [e1]
      simp only [retX]
      refine zr_sound hR1 _ _ hz.2 ?_
      have : ∀ (rs : List ZRes) (K K' : List Value → Prop), (∀ vs, K vs → K' vs) → ZR F1 G1 rs K → ZR F1 G1 rs K' := by
        intro rs
        induction rs with
        | nil => intro K K' hk h; exact hk _ h
        | cons r rs ih =>
          intro K K' hk h
          cases r with
          | tmp i => exact ih _ _ (fun vs => hk _) h
          | cell a ty => exact ⟨h.1, ih _ _ (fun vs => hk _) h.2⟩
      exact this _ _ _ (fun vs hv => ⟨φ1, H2, rfl, hR1.fit, hv⟩) hq
    | exit id => exact hq
    | ret =>
      rw [e1]
      simp only [retX]
      refine zr_sound hR1 _ _ hz.2 ?_
      have : ∀ (rs : List ZRes) (K K' : List Value → Prop), (∀ vs, K vs → K' vs) → ZR F1 G1 rs K → ZR F1 G1 rs K' := by
        intro rs
        induction rs with
        | nil => intro K K' hk h; exact hk _ h
        | cons r rs ih =>
          intro K K' hk h
          cases r with
          | tmp i => exact ih _ _ (fun vs => hk _) h
          | cell a ty => exact ⟨h.1, ih _ _ (fun vs => hk _) h.2⟩
      exact this _ _ _ (fun vs hv => ⟨φ1, H2, rfl, hR1.fit, hv⟩) hq) hx)
  obtain ⟨φ1, H2, rfl, hfit, hQ⟩ := h3
  have := kill_rows hfit h2 H2.length
  rw [cut_all hfit] at this
  exact ⟨v, H2, .inl ⟨h1, this⟩, hQ⟩
end
def ZWt (P : Program) (l : List ZItem) (Q : Fr → Fr → SHeap → Prop) (tk : Tok l Q) (F G : Fr) (H : SHeap) : Prop := ZW P l F G H Q
def ZXt (P : Program) (x : ZCode) (Q : SExit → Fr → Fr → SHeap → Prop) (tk : Tok x Q) (F G : Fr) (H : SHeap) : Prop := ZX P x F G H Q
def ZRt (rs : List ZRes) (K : List Value → Prop) (tk : Tok rs K) (F G : Fr) : Prop := ZR F G rs K
def LoopZt (P : Program) (m k : Nat) (x : ZCode) (Q : SExit → Fr → Fr → SHeap → Prop) (tk : Tok x Q) (F G : Fr) (H : SHeap) : Prop := LoopZ (ZX P x) Q F G H
def Putt (P : Program) (e : Nat) (K : Prop) (tk : Tok K K) (v : Value) : Prop := Chk (Whole P e v) K
theorem Putt.mk {P : Program} {e : Nat} {K : Prop} {tk : Tok K K} {v : Value} (h : Whole P e v) (hk : K) : Putt P e K tk v := ⟨h, hk⟩
section
variable {P : Program} {F G : Fr} {H : SHeap}
@[simp] theorem Putt_agg {e : Nat} {K : Prop} (tk : Tok K K) (cs : Array Value) : Putt P e K tk (.agg cs) = Chkt K .mk (aggB P e = some true ∧ sz? P e = some cs.size ∧ (cs.toList.all (·.oneCell')) = true) := by
  apply propext
  constructor
  · rintro ⟨⟨h1, h2, h3⟩, hk⟩; exact ⟨⟨by simpa [isAg] using h3, h1, h2⟩, hk⟩
  · rintro ⟨⟨h1, h2, h3⟩, hk⟩; exact ⟨⟨h2, h3, by simpa [isAg] using h1⟩, hk⟩
variable {r : List ZItem} {Q : Fr → Fr → SHeap → Prop}
@[simp] theorem tz_nil (tk : Tok ([] : List ZItem) Q) : ZWt P [] Q tk F G H = Q F G H := rfl
@[simp] theorem tz_xs (l : List XOp) (tk : Tok (.xs l :: r) Q) : ZWt P (.xs l :: r) Q tk F G H = XWt P l (fun F1 H1 => ZWt P r Q .mk F1 G H1) .mk F H := rfl
theorem tz_al {c e : Nat} {z : Value} (hz : zero? P e = some z) (hzf : flat z = true) (hw : Whole P e z) (tk : Tok (.al c e :: r) Q) : ZWt P (.al c e :: r) Q tk F G H = ZWt P r Q .mk (upd F c (.pointer (some ⟨H.length, 0, none⟩))) (upd G c z) (H ++ [.dead]) := by
  simp [ZWt, ZW, hz, Get, Chk, hzf, hw]
@[simp] theorem tz_bx (c e : Nat) (y : Operand) (tk : Tok (.bx c e y :: r) Q) : ZWt P (.bx c e y :: r) Q tk F G H = Putt P e (ZWt P r Q .mk (upd F c (.pointer (some ⟨H.length, 0, none⟩))) (upd G c (fev F y)) (H ++ [.dead])) .mk (fev F y) := rfl
@[simp] theorem tz_fa (d s x f c off : Nat) (tk : Tok (.fa none d s x f c off :: r) Q) : ZWt P (.fa none d s x f c off :: r) Q tk F G H = Chkt (ZWt P r Q .mk (upd F d (padd (F c) off)) G H) .mk (isPtr (F c) = true) := rfl
@[simp] theorem tz_fag (j : Nat) (w : Bool) (d s x f c off : Nat) (tk : Tok (.fa (some (j, w)) d s x f c off :: r) Q) : ZWt P (.fa (some (j, w)) d s x f c off :: r) Q tk F G H = Gdt (ZWt P (.fa none d s x f c off :: r) Q .mk F G H) (ZWt P r Q .mk (upd F d undef) G H) .mk (boolOf (F j)) w := rfl
@[simp] theorem tz_ldw (d t x c : Nat) (tk : Tok (.ldw none d t x c :: r) Q) : ZWt P (.ldw none d t x c :: r) Q tk F G H = Chkt (ZWt P r Q .mk (upd F d (G c)) G H) .mk (isPtr (F c) = true) := rfl
@[simp] theorem tz_ldwg (j : Nat) (w : Bool) (d t x c : Nat) (tk : Tok (.ldw (some (j, w)) d t x c :: r) Q) : ZWt P (.ldw (some (j, w)) d t x c :: r) Q tk F G H = Gdt (ZWt P (.ldw none d t x c :: r) Q .mk F G H) (ZWt P r Q .mk (upd F d undef) G H) .mk (boolOf (F j)) w := rfl
@[simp] theorem tz_ld (d t x c off : Nat) (tk : Tok (.ld none d t x c off :: r) Q) : ZWt P (.ld none d t x c off :: r) Q tk F G H = Chkt (OnGt (fun cs => Gett (fun a => Brt (Gett (fun n => Chkt (ZWt P r Q .mk (upd F d (.agg ((cs.toList.drop off).take n).toArray)) G H) .mk (off + n ≤ cs.size)) .mk (sz? P t)) (Gett (fun v => ZWt P r Q .mk (upd F d v) G H) .mk cs.toList[off]?) .mk a) .mk (aggB P t)) .mk (G c)) .mk (isPtr (F c) = true) := rfl
@[simp] theorem tz_ldg (j : Nat) (w : Bool) (d t x c off : Nat) (tk : Tok (.ld (some (j, w)) d t x c off :: r) Q) : ZWt P (.ld (some (j, w)) d t x c off :: r) Q tk F G H = Gdt (ZWt P (.ld none d t x c off :: r) Q .mk F G H) (ZWt P r Q .mk (upd F d undef) G H) .mk (boolOf (F j)) w := rfl
@[simp] theorem tz_stw (b : Bool) (t x c : Nat) (y : Operand) (tk : Tok (.stw b none t x y c :: r) Q) : ZWt P (.stw b none t x y c :: r) Q tk F G H = Chkt (Putt P t (ZWt P r Q .mk F (upd G c (fev F y)) H) .mk (fev F y)) .mk (isPtr (F c) = true) := by
  simp [ZWt, ZW, ZG, Chkt, Putt, Chk, and_assoc]
@[simp] theorem tz_stwg (b : Bool) (j : Nat) (w : Bool) (t x c : Nat) (y : Operand) (tk : Tok (.stw b (some (j, w)) t x y c :: r) Q) : ZWt P (.stw b (some (j, w)) t x y c :: r) Q tk F G H = Gdt (ZWt P (.stw b none t x y c :: r) Q .mk F G H) (ZWt P r Q .mk F G H) .mk (boolOf (F j)) w := rfl
@[simp] theorem tz_st (b : Bool) (t x c off : Nat) (y : Operand) (tk : Tok (.st b none t x y c off :: r) Q) : ZWt P (.st b none t x y c off :: r) Q tk F G H = Chkt (OnGt (fun cs => Chkt (ZWt P r Q .mk F (upd G c (.agg (wrc cs.toList off (fev F y).cells.toList).toArray)) H) .mk (sz? P t = some (fev F y).cells.size ∧ off + (fev F y).cells.size ≤ cs.size ∧ ((fev F y).cells.toList.all (·.oneCell')) = true)) .mk (G c)) .mk (isPtr (F c) = true) := rfl
@[simp] theorem tz_stg (b : Bool) (j : Nat) (w : Bool) (t x c off : Nat) (y : Operand) (tk : Tok (.st b (some (j, w)) t x y c off :: r) Q) : ZWt P (.st b (some (j, w)) t x y c off :: r) Q tk F G H = Gdt (ZWt P (.st b none t x y c off :: r) Q .mk F G H) (ZWt P r Q .mk F G H) .mk (boolOf (F j)) w := rfl
end
def mix (m : Nat) (F F1 : Fr) : Fr := fun r => if (m >>> r) % 2 = 1 then F1 r else F r
@[simp] theorem mix_ap (m : Nat) (F F1 : Fr) (r : Nat) : mix m F F1 r = if (m >>> r) % 2 = 1 then F1 r else F r := rfl
theorem mix_eq {m : Nat} {F F1 : Fr} (h : ∀ r, inM m r = false → F1 r = F r) : F1 = mix m F F1 := by
  funext r
  simp only [mix]
  split
  · rfl
  · rename_i hr; exact h r (by simpa [inM] using hr)
section
variable {P : Program} {F G : Fr} {H : SHeap} {Q : SExit → Fr → Fr → SHeap → Prop}
@[simp] theorem tzx_skip (tk : Tok (ZCode.skip) Q) : ZXt P .skip Q tk F G H = Q .normal F G H := rfl
@[simp] theorem tzx_ret (tk : Tok (ZCode.ret) Q) : ZXt P .ret Q tk F G H = Q .ret F G H := rfl
@[simp] theorem tzx_exit (id : Nat) (tk : Tok (ZCode.exit id) Q) : ZXt P (.exit id) Q tk F G H = Q (.exit id) F G H := rfl
@[simp] theorem tzx_seq (x y : ZCode) (tk : Tok (ZCode.seq x y) Q) : ZXt P (.seq x y) Q tk F G H = ZXt P x (seqZ (fun F1 G1 H1 => ZXt P y Q .mk F1 G1 H1) Q) .mk F G H := rfl
@[simp] theorem tzx_cond (c : Operand) (x y : ZCode) (tk : Tok (ZCode.cond c x y) Q) : ZXt P (.cond c x y) Q tk F G H = OnBt (fun b => Brt (ZXt P x Q .mk F G H) (ZXt P y Q .mk F G H) .mk b) .mk (fev F c) := rfl
@[simp] theorem tzx_block (id : Nat) (x : ZCode) (tk : Tok (ZCode.block id x) Q) : ZXt P (.block id x) Q tk F G H = ZXt P x (blockZ id Q) .mk F G H := rfl
@[simp] theorem tzx_loop (m k : Nat) (x : ZCode) (tk : Tok (ZCode.loop m k x) Q) : ZXt P (.loop m k x) Q tk F G H = LoopZt P m k x Q .mk F G H := rfl
@[simp] theorem tzx_ops (l : List ZItem) (tk : Tok (ZCode.ops l) Q) : ZXt P (.ops l) Q tk F G H = ZWt P l (fun F1 G1 H1 => Q .normal F1 G1 H1) .mk F G H := rfl
@[simp] theorem tzx_opsL (l : List ZItem) (tk : Tok (ZCode.opsL l) Q) : ZXt P (.opsL l) Q tk F G H = ZWt P l (fun F1 G1 H1 => Q .normal F1 G1 H1) .mk F G H := rfl
@[simp] theorem tzr_nil {K : List Value → Prop} (tk : Tok ([] : List ZRes) K) : ZRt [] K tk F G = K [] := rfl
@[simp] theorem tzr_tmp {K : List Value → Prop} (i : Nat) (rs : List ZRes) (tk : Tok (.tmp i :: rs) K) : ZRt (.tmp i :: rs) K tk F G = ZRt rs (fun vs => K (F i :: vs)) .mk F G := rfl
@[simp] theorem tzr_cell {K : List Value → Prop} (a ty : Nat) (rs : List ZRes) (tk : Tok (.cell a ty :: rs) K) : ZRt (.cell a ty :: rs) K tk F G = Chkt (ZRt rs (fun vs => K (G a :: vs)) .mk F G) .mk (isPtr (F a) = true) := rfl
@[simp] theorem tretZ_n {rs : List ZRes} {R : Value → SHeap → Prop} : retZ rs R .normal F G H = ZRt rs (fun vs => R (retOf vs) H) .mk F G := rfl
@[simp] theorem tretZ_r {rs : List ZRes} {R : Value → SHeap → Prop} : retZ rs R .ret F G H = ZRt rs (fun vs => R (retOf vs) H) .mk F G := rfl
@[simp] theorem seqZ_n {K : Fr → Fr → SHeap → Prop} : seqZ K Q .normal F G H = K F G H := rfl
@[simp] theorem seqZ_r {K : Fr → Fr → SHeap → Prop} : seqZ K Q .ret F G H = Q .ret F G H := rfl
@[simp] theorem seqZ_e {K : Fr → Fr → SHeap → Prop} (id : Nat) : seqZ K Q (.exit id) F G H = Q (.exit id) F G H := rfl
@[simp] theorem blockZ_n (id : Nat) : blockZ id Q .normal F G H = Q .normal F G H := rfl
@[simp] theorem blockZ_r (id : Nat) : blockZ id Q .ret F G H = Q .ret F G H := rfl
@[simp] theorem blockZ_e (id id' : Nat) : blockZ id Q (.exit id') F G H = if id' = id then Q .normal F G H else Q (.exit id') F G H := rfl
theorem LoopZt.mk {m k : Nat} {x : ZCode} {tk : Tok x Q} (ha : asC m k x = true) (I : Nat → Fr → Fr → SHeap → Prop) (n : Nat) (h0 : I n F G H)
    (round : ∀ n F1 G1 H1, I n (mix m F F1) (mix k G G1) H1 → ∀ K : Fr → Fr → SHeap → Prop, (∀ n' F2 G2 H2, n' < n → I n' F2 G2 H2 → K F2 G2 H2) → ZXt P x (seqZ K Q) .mk (mix m F F1) (mix k G G1) H1) : LoopZt P m k x Q tk F G H := by
  have main : ∀ n F1 G1 H1, (∀ r, inM m r = false → F1 r = F r) → (∀ r, inM k r = false → G1 r = G r) → I n F1 G1 H1 → LoopZ (ZX P x) Q F1 G1 H1 := by
    intro n
    induction n using Nat.strongRecOn with
    | _ n ih =>
      intro F1 G1 H1 hF hG hI
      have hr : ZX P x F1 G1 H1 (seqZ (fun F2 G2 H2 => ∃ n', n' < n ∧ I n' F2 G2 H2) Q) := by
        have := round n F1 G1 H1 (by rw [← mix_eq hF, ← mix_eq hG]; exact hI) (fun F2 G2 H2 => ∃ n', n' < n ∧ I n' F2 G2 H2) fun n' F2 G2 H2 h1 h2 => ⟨n', h1, h2⟩
        rw [← mix_eq hF, ← mix_eq hG] at this
        exact this
      refine .round (fun F2 G2 H2 => (∃ n', n' < n ∧ I n' F2 G2 H2) ∧ (∀ r, inM m r = false → F2 r = F1 r) ∧ ∀ r, inM k r = false → G2 r = G1 r) (ZX.keep (x := x) ha (fun e F2 G2 H2 f2 g2 h2 => ?_) hr) ?_
      · cases e with
        | normal => exact ⟨h2, f2, g2⟩
        | exit id => exact h2
        | ret => exact h2
      · rintro F2 G2 H2 ⟨⟨n', h1, h2⟩, f2, g2⟩
        exact ih n' h1 F2 G2 H2 (fun r hr => by rw [f2 r hr, hF r hr]) (fun r hr => by rw [g2 r hr, hG r hr]) h2
  exact main n F G H (fun _ _ => rfl) (fun _ _ => rfl) h0
def NrmZ (R : Fr → Fr → SHeap → Prop) : SExit → Fr → Fr → SHeap → Prop
  | .normal, F, G, H => R F G H
  | _, _, _, _ => False
@[simp] theorem NrmZ_n (R : Fr → Fr → SHeap → Prop) : NrmZ R .normal F G H = R F G H := rfl
theorem tzx_box (m k : Nat) (x : ZCode) (tk : Tok (ZCode.box m k x) Q) : ZXt P (.box m k x) Q tk F G H = ZXt P x Q .mk F G H := rfl
theorem ZXt.join {m k : Nat} {x : ZCode} {K : Fr → Fr → SHeap → Prop} {tk : Tok (ZCode.box m k x) (seqZ K Q)} (ha : asC m k x = true) (R : Fr → Fr → SHeap → Prop) (h1 : ∀ K' : SExit → Fr → Fr → SHeap → Prop, (∀ F1 G1 H1, R F1 G1 H1 → K' .normal F1 G1 H1) → (∀ e F1 G1 H1, e ≠ .normal → Q e F1 G1 H1 → K' e F1 G1 H1) → ZXt P x K' .mk F G H)
    (h2 : ∀ F1 G1 H1, R (mix m F F1) (mix k G G1) H1 → K (mix m F F1) (mix k G G1) H1) : ZXt P (.box m k x) (seqZ K Q) tk F G H := by
  refine ZX.keep (x := x) ha (fun e F1 G1 H1 f1 g1 h => ?_) (h1 (seqZ R Q) (fun _ _ _ h => h) (fun e F1 G1 H1 he h => by
    cases e with
    | normal => exact absurd rfl he
    | exit id => exact h
    | ret => exact h))
  cases e with
  | normal =>
    have := h2 F1 G1 H1 (by rw [← mix_eq f1, ← mix_eq g1]; exact h)
    rw [← mix_eq f1, ← mix_eq g1] at this
    exact this
  | exit id => exact h
  | ret => exact h
theorem SW.zintot {f : FuncId} {fn : Func} {z : ZFunc} {C : Cells} {args : List Value} {R : Value → SHeap → Prop} (hf : P.funcs[f]? = some fn) (hn : (fn.name == "runtime.NumGoroutine") = false) (hc : comp P fn = some z.back) (hz : (zokC P C z.code && zokR C z.results) = true)
    (hl : args.length ≤ fn.ntmps) (hC : (C.all fun p => decide (args.length ≤ p.1)) = true) (h : ZXt P z.code (retZ z.results R) .mk (argF args) (fun _ => undef) H) : SW P f args H R := SW.zinto hf hn hc hz hl hC h
end
theorem cells_ge {C : Cells} {args : List Value} {n : Nat} (hl : args.length ≤ n) (h : (C.all fun p => decide (n ≤ p.1)) = true) : (C.all fun p => decide (args.length ≤ p.1)) = true := by
  rw [List.all_eq_true] at h ⊢
  intro p hp
  have := of_decide_eq_true (h p hp)
  exact decide_eq_true (Nat.le_trans hl this)
theorem Ext.dead (H : SHeap) : Ext H (H ++ [.dead]) := ⟨[.dead], rfl, fun x hx e cs => by simp at hx; subst hx; simp⟩
def Kept (H H' : SHeap) (s : Value) (e : Nat) : Prop := ∀ b X, H[b]? = some X → (inBlock s b → X.elem? ≠ some e) → H'[b]? = some X
theorem Sl.kept {H H' : SHeap} {e e' sz n : Nat} {s v : Value} {cs : List Value} (h : Sl H e' sz v n cs) (hk : Kept H H' s e) (hne : e' ≠ e) : Sl H' e' sz v n cs := by
  obtain ⟨a, cap, hv, h1, h2, h3⟩ := h
  refine ⟨a, cap, hv, h1, h2, fun hc => ?_⟩
  obtain ⟨b, i, X, all, q1, q2, q3, q4, q5⟩ := h3 hc
  exact ⟨b, i, X, all, q1, hk b X q2 (fun _ h => hne (by rw [q4] at h; exact Option.some.inj h)), q3, q4, q5⟩
def elV (ag : Bool) (sz : Nat) (cs : List Value) (i : Nat) : Value := if ag = true then .agg ((cs.drop (i * sz)).take sz).toArray else cs[i]?.getD undef
class Mono {α : Type} (R : SHeap → Value → α → Prop) : Prop where
  ext : ∀ {H H1 : SHeap} {v : Value} {x : α}, R H v x → Ext H H1 → R H1 v x
def Row {α : Type} (e sz : Nat) (ag : Bool) (R : SHeap → Value → α → Prop) (H : SHeap) (v : Value) (xs : List α) : Prop := ∃ cs, Sl H e sz v xs.length cs ∧ ∀ i x, xs[i]? = some x → R H (elV ag sz cs i) x
def OwR {α : Type} (k e sz : Nat) (ag : Bool) (R : SHeap → Value → α → Prop) (H : SHeap) (v : Value) (xs : List α) : Prop := ∃ cs, Ow H k e sz v xs.length cs ∧ ∀ i x, xs[i]? = some x → R H (elV ag sz cs i) x
section
variable {α : Type} {e sz k : Nat} {ag : Bool} {R : SHeap → Value → α → Prop} {H H1 : SHeap} {v : Value} {xs : List α}
instance [Mono R] : Mono (Row e sz ag R) := ⟨fun ⟨cs, h1, h2⟩ hx => ⟨cs, h1.ext hx, fun i x hi => Mono.ext (h2 i x hi) hx⟩⟩
instance [Mono R] : Mono (OwR k e sz ag R) := ⟨fun ⟨cs, h1, h2⟩ hx => ⟨cs, h1.ext hx, fun i x hi => Mono.ext (h2 i x hi) hx⟩⟩
theorem OwR.row (h : OwR k e sz ag R H v xs) : Row e sz ag R H v xs := let ⟨cs, h1, h2⟩ := h; ⟨cs, h1.sl, h2⟩
theorem Row.len (h : Row e sz ag R H v xs) : ∃ a c, v = .slice a xs.length c := let ⟨cs, h1, h2⟩ := h; h1.len
theorem OwR.len (h : OwR k e sz ag R H v xs) : ∃ a c, v = .slice a xs.length c := h.row.len
theorem Row.nil (e sz : Nat) (ag : Bool) (R : SHeap → Value → α → Prop) (H : SHeap) : Row e sz ag R H (.slice none 0 0) [] := ⟨[], Sl.nil H e sz, fun i x h => by simp at h⟩
theorem OwR.nil (k e sz : Nat) (ag : Bool) (R : SHeap → Value → α → Prop) (H : SHeap) : OwR k e sz ag R H (.slice none 0 0) [] := ⟨[], Ow.nil H k e sz, fun i x h => by simp at h⟩
theorem OwR.void (k e sz i : Nat) (ag : Bool) (R : SHeap → Value → α → Prop) (H : SHeap) : OwR k e sz ag R H (.slice (some ⟨0, i, none⟩) 0 0) [] := ⟨[], Ow.void H k e sz i, fun i x h => by simp at h⟩
theorem Row.kept {s : Value} {e' : Nat} (h : Row e sz ag R H v xs) (hk : Kept H H1 s e') (hne : e ≠ e') (hR : ∀ u x, R H u x → R H1 u x) : Row e sz ag R H1 v xs := let ⟨cs, h1, h2⟩ := h; ⟨cs, h1.kept hk hne, fun i x hi => hR _ _ (h2 i x hi)⟩
theorem Row.at (h : Row e sz ag R H v xs) {i : Nat} {x : α} (hi : xs[i]? = some x) : ∃ b o cap X all, v = .slice (some ⟨b, o, none⟩) xs.length cap ∧ H[b]? = some X ∧ X.cells? = some all ∧ o + i * sz + sz ≤ all.length ∧
    R H (if ag = true then .agg ((all.drop (o + i * sz)).take sz).toArray else ((all.drop (o + i * sz)).take sz)[0]?.getD undef) x ∨ (ag = false ∧ sz ≠ 1) := by
  by_cases hs : ag = false ∧ sz ≠ 1
  · exact ⟨0, 0, 0, .dead, [], .inr hs⟩
  obtain ⟨cs, h1, h2⟩ := h
  have hl : i < xs.length := (gsI.1 hi).1
  obtain ⟨a, cap, hv, h3, h4, h5⟩ := h1
  obtain ⟨b, o, X, all, rfl, q2, q3, q4, q5, q6⟩ := h5 (by omega)
  have hle : (i + 1) * sz ≤ xs.length * sz := Nat.mul_le_mul_right _ hl
  rw [Nat.succ_mul] at hle
  refine ⟨b, o, cap, X, all, .inl ⟨hv, q2, q3, by omega, ?_⟩⟩
  have hx := h2 i x hi
  unfold elV at hx
  have hc : (cs.drop (i * sz)).take sz = (all.drop (o + i * sz)).take sz := by
    rw [q6, List.drop_take, List.drop_drop, List.take_take, Nat.min_eq_left (by omega)]
  cases ag with
  | true => simp only [if_true] at hx ⊢; rw [← hc]; exact hx
  | false =>
    have hs1 : sz = 1 := by
      by_cases h : sz = 1
      · exact h
      · exact absurd ⟨rfl, h⟩ hs
    subst hs1
    simp only [Bool.false_eq_true, if_false] at hx ⊢
    rw [← hc]
    simpa [List.getElem?_take, List.getElem?_drop] using hx
end
section
variable {P : Program} {r : List XOp} {F : Fr} {H : SHeap} {Q : Fr → SHeap → Prop} {α : Type}
theorem tx_elem {d t d2 e sz n : Nat} {ag : Bool} {x i : Operand} {R : SHeap → Value → α → Prop} {xs : List α} {a : α} {tk : Tok (ia d t x i :: ld d2 e (T d) :: r) Q} (hR : Row e sz ag R H (fev F x) xs) (hi : fev F i = .int .i64 (n : Int)) (ha : xs[n]? = some a)
    (ht : sliceE P t = some e) (hs : sz? P e = some sz) (hag : aggB P e = some ag) (h1 : ag = true ∨ sz = 1) (K : ∀ p u, R H u a → XWt P r Q .mk (upd (upd F d p) d2 u) H) : XWt P (ia d t x i :: ld d2 e (T d) :: r) Q tk F H := by
  have hl : n < xs.length := (gsI.1 ha).1
  obtain ⟨b, o, cap, X, all, ⟨hv, hX, hc, hfit, hu⟩ | ⟨q1, q2⟩⟩ := hR.at ha
  · rw [tx_ia, hv, hi, OnSlt_sl, OnIt_int, ht, Gett_some, hs, Gett_some, OnAt_a]
    refine Chkt.mk ⟨by omega, by omega⟩ ?_
    rw [tx_ld]
    simp only [fev_T, upd_same, OnPt_ptr, hX, Option.bind_some, hc, Gett_some, hag, Int.toNat_natCast]
    cases ag with
    | true =>
      rw [Brt_true, hs, Gett_some]
      refine Chkt.mk hfit ?_
      exact K _ _ hu
    | false =>
      rw [Brt_false]
      have hs1 : sz = 1 := by rcases h1 with h | h; cases h; exact h
      subst hs1
      have hlt : o + n * 1 < all.length := by omega
      rw [gtE hlt, Gett_some]
      refine K _ _ ?_
      simp only [Bool.false_eq_true, if_false] at hu
      rw [List.getElem?_take_of_lt (by omega), List.getElem?_drop, Nat.add_zero, gtE hlt] at hu
      exact hu
  · rcases h1 with h | h
    · rw [h] at q1; cases q1
    · exact absurd h q2
theorem tx_gone {j : Nat} {w : Bool} {x : XOp} {tk : Tok (gd j w x :: r) Q} (h : boolOf (F j) = some w) (K : XWt P (ug x :: r) Q .mk F H) : XWt P (gd j w x :: r) Q tk F H := by
  rw [tx_gd]
  show Gd _ _ _ _
  unfold Gd
  rw [if_pos h]
  exact K
theorem tx_elemg {j d t d2 e sz n : Nat} {w : Bool} {ag : Bool} {x i : Operand} {R : SHeap → Value → α → Prop} {xs : List α} {a : α} {tk : Tok (ia d t x i :: gd j w (ld d2 e (T d)) :: r) Q} (hg : boolOf (F j) = some w) (hjd : j ≠ d) (hR : Row e sz ag R H (fev F x) xs) (hi : fev F i = .int .i64 (n : Int)) (ha : xs[n]? = some a)
    (ht : sliceE P t = some e) (hs : sz? P e = some sz) (hag : aggB P e = some ag) (h1 : ag = true ∨ sz = 1) (K : ∀ p u, R H u a → XWt P r Q .mk (upd (upd F d p) d2 u) H) : XWt P (ia d t x i :: gd j w (ld d2 e (T d)) :: r) Q tk F H := by
  have h0 : XWt P (ia d t x i :: ld d2 e (T d) :: r) Q .mk F H := tx_elem hR hi ha ht hs hag h1 K
  rw [tx_ia] at h0 ⊢
  revert h0
  simp only [OnSlt, OnSl, OnIt, OnI, Gett, OnAt, OnA, Chkt, Chk, Get]
  cases fev F x <;> try exact id
  cases fev F i <;> try exact id
  simp only
  cases sliceE P t <;> try exact id
  simp only
  rename_i ee
  cases sz? P ee <;> try exact id
  simp only
  split
  · rintro ⟨h1, h2⟩
    exact ⟨h1, tx_gone (by rw [upd_ne _ _ hjd]; exact hg) h2⟩
  · exact id
theorem tx_lnR {d t e sz : Nat} {ag : Bool} {x : Operand} {R : SHeap → Value → α → Prop} {xs : List α} {tk : Tok (ln d t x :: r) Q} (hR : Row e sz ag R H (fev F x) xs) (ht : sliceE P t = some e) (K : XWt P r Q .mk (upd F d (.int .i64 xs.length)) H) : XWt P (ln d t x :: r) Q tk F H := by
  obtain ⟨a, c, hv⟩ := hR.len
  rw [tx_ln, hv, lenOf_sl, ht]
  exact K
theorem elV_append_lt {ag : Bool} {sz i n : Nat} {cs ds : List Value} (hl : cs.length = n * sz) (hi : i < n) (h1 : ag = true ∨ sz = 1) : elV ag sz (cs ++ ds) i = elV ag sz cs i := by
  unfold elV
  have hle : (i + 1) * sz ≤ n * sz := Nat.mul_le_mul_right _ hi
  rw [Nat.succ_mul] at hle
  cases ag with
  | true =>
    simp only [if_true]
    rw [List.drop_append_of_le_length (by omega), List.take_append_of_le_length (by simp; omega)]
  | false =>
    have hs1 : sz = 1 := by rcases h1 with h | h; cases h; exact h
    subst hs1
    simp only [Bool.false_eq_true, if_false]
    rw [List.getElem?_append_left (by omega)]
theorem elV_append_eq {P : Program} {e : Nat} {ag : Bool} {sz n : Nat} {cs : List Value} {u : Value} (hl : cs.length = n * sz) (hw : Whole P e u) (hs : sz? P e = some sz) (hag : aggB P e = some ag) : elV ag sz (cs ++ u.cells.toList) n = u := by
  obtain ⟨w1, w2, w3⟩ := hw
  have hsz : u.cells.size = sz := by rw [hs] at w1; exact (Option.some.inj w1).symm
  unfold elV
  cases ag with
  | true =>
    simp only [if_true]
    have ha : isAg u = true := by
      cases hq : isAg u with
      | true => rfl
      | false => rw [hq] at w3; simp at w3; rw [w3.1] at hag; cases hag
    rw [← hl, List.drop_append_of_le_length (Nat.le_refl _), List.drop_length, List.nil_append, List.take_of_length_le (by simp; omega), Array.toArray_toList]
    exact (ag_cells ha).symm
  | false =>
    simp only [Bool.false_eq_true, if_false]
    have ha : isAg u = false := by
      cases hq : isAg u with
      | false => rfl
      | true => rw [hq] at w3; simp at w3; rw [w3] at hag; cases hag
    rw [ha] at w3
    simp at w3
    have h1 : sz = 1 := by rw [← hsz, w3.2]; rfl
    subst h1
    rw [List.getElem?_append_right (by omega), w3.2]
    have : n - cs.length = 0 := by omega
    simp [this]
theorem tx_push {bb : Bool} {d1 d2 t ts tx e sz by_ k : Nat} {ag : Bool} {s x : Operand} {z : Value} {R : SHeap → Value → α → Prop} {xs : List α} {a : α} {tk : Tok ((⟨bb, none, some d1, .buildSlice t 1 #[(0, x)]⟩ : XOp) :: ap d2 ts tx s (T d1) :: r) Q} (hO : OwR k e sz ag R H (fev F s) xs) (ha : R H (fev F x) a)
    (hw : Whole P e (fev F x)) (hs1 : ∀ v, fev (upd F d1 v) s = fev F s) (hRk : ∀ H' s' u y, Kept H H' s' e → R H u y → R H' u y)
    (ht : P.underlying t = some (.slice e)) (hu : P.underlying ts = some (.slice e)) (hx : srcT P tx = true) (hs : sz? P e = some sz) (hag : aggB P e = some ag) (hb : bytes? P e = some by_) (hz : zero? P e = some z) (hzf : flat z = true) (hzs : z.cells.size = sz) (hsz : 0 < sz) (hsz' : sz ≤ 1000)
    (hby : 0 < by_) (hfit : (xs.length + 1) * by_ ≤ 140737488355328) (hk : k ≤ H.length)
    (K : ∀ p v' H', OwR k e sz ag R H' v' (xs ++ [a]) → (∀ H0 : SHeap, H0.length ≤ k → Ext H0 H → Ext H0 H') → Kept H H' (fev F s) e → XWt P r Q .mk (upd (upd F d1 p) d2 v') H') :
    XWt P ((⟨bb, none, some d1, .buildSlice t 1 #[(0, x)]⟩ : XOp) :: ap d2 ts tx s (T d1) :: r) Q tk F H := by
  obtain ⟨cs, hO1, hO2⟩ := hO
  have hcl := hO1.1
  have hsz2 : (fev F x).cells.size = sz := by have := hw.1; rw [hs] at this; exact (Option.some.inj this).symm
  have h1 : ag = true ∨ sz = 1 := by
    cases ag with
    | true => exact .inl rfl
    | false =>
      refine .inr ?_
      have w3 := hw.2.2
      cases hq : isAg (fev F x) with
      | true => rw [hq] at w3; simp at w3; rw [w3] at hag; cases hag
      | false => rw [hq] at w3; simp at w3; rw [← hsz2, w3.2]; rfl
  refine tx_app1 hO1 hs1 ht hu hx hs hb hz hzf hzs hsz hsz' hby hfit (by simp [hsz2]) hw.2.1 hk fun p v' H' q1 q2 q3 => K p v' H' ⟨_, by simpa using q1, fun i y hy => ?_⟩ q2 q3
  by_cases hi : i < xs.length
  · rw [List.getElem?_append_left hi] at hy
    rw [elV_append_lt hcl hi h1]
    exact hRk _ _ _ _ q3 (hO2 i y hy)
  · have hin : i = xs.length := by
      have := (gsI.1 hy).1
      simp at this
      omega
    subst hin
    rw [List.getElem?_append_right (Nat.le_refl _), Nat.sub_self] at hy
    simp at hy
    subst hy
    rw [elV_append_eq hcl hw hs hag]
    exact hRk _ _ _ _ q3 ha
theorem elV_append_ge {ag : Bool} {sz i n : Nat} {cs ds : List Value} (hl : cs.length = n * sz) (hi : n ≤ i) (h1 : ag = true ∨ sz = 1) : elV ag sz (cs ++ ds) i = elV ag sz ds (i - n) := by
  unfold elV
  have hle : n * sz ≤ i * sz := Nat.mul_le_mul_right _ hi
  cases ag with
  | true =>
    simp only [if_true]
    rw [List.drop_append, List.drop_eq_nil_of_le (by omega), List.nil_append, hl, Nat.sub_mul]
  | false =>
    have hs1 : sz = 1 := by rcases h1 with h | h; cases h; exact h
    subst hs1
    simp only [Bool.false_eq_true, if_false]
    rw [List.getElem?_append_right (by omega)]
    congr 2
    omega
theorem tx_apR {d ts tx e sz by_ k : Nat} {ag : Bool} {s x : Operand} {z : Value} {R : SHeap → Value → α → Prop} {xs ys : List α} {tk : Tok (ap d ts tx s x :: r) Q} (hO : OwR k e sz ag R H (fev F s) xs) (hY : Row e sz ag R H (fev F x) ys) (hRw : ∀ u y, R H u y → Whole P e u) (hRk : ∀ H' s' u y, Kept H H' s' e → R H u y → R H' u y)
    (hu : P.underlying ts = some (.slice e)) (hx : srcT P tx = true) (hs : sz? P e = some sz) (hag : aggB P e = some ag) (h1 : ag = true ∨ sz = 1) (hb : bytes? P e = some by_) (hz : zero? P e = some z) (hzs : z.cells.size = sz) (hby : 0 < by_) (hfit : (xs.length + ys.length) * by_ ≤ 140737488355328) (hk : k ≤ H.length)
    (K : ∀ v' H', OwR k e sz ag R H' v' (xs ++ ys) → (∀ H0 : SHeap, H0.length ≤ k → Ext H0 H → Ext H0 H') → Kept H H' (fev F s) e → XWt P r Q .mk (upd F d v') H') : XWt P (ap d ts tx s x :: r) Q tk F H := by
  obtain ⟨cs, hO1, hO2⟩ := hO
  obtain ⟨ds, hY1, hY2⟩ := hY
  have hcl := hO1.1
  obtain ⟨a, c, hv, q1, q2, q3⟩ := hY1
  have hsrc : Src H sz (fev F x) ys.length ys.length ds := by
    have := Sl.src (H := H) (e := e) (sz := sz) (v := fev F x) (n := ys.length) (cs := ds) ⟨a, c, hv, q1, q2, q3⟩ (Nat.le_refl _)
    rwa [← q2, List.take_length] at this
  have hone : (ds.all (·.oneCell')) = true := by
    rw [List.all_eq_true]
    intro u hu'
    obtain ⟨j, hj⟩ := List.getElem?_of_mem hu'
    have hjl : j < ys.length * sz := by have := (gsI.1 hj).1; omega
    have hsz : 0 < sz := by rcases Nat.eq_zero_or_pos sz with q | q; · subst q; simp at hjl
                            exact q
    have hil : j / sz < ys.length := Nat.div_lt_of_lt_mul (by rw [Nat.mul_comm]; exact hjl)
    have hw := hRw _ _ (hY2 _ _ (gtE hil))
    have hmem : u ∈ (elV ag sz ds (j / sz)).cells.toList := by
      unfold elV
      cases ag with
      | true =>
        simp only [if_true, Value.cells, List.toList_toArray]
        have hdm := Nat.div_add_mod j sz
        have hml := Nat.mod_lt j hsz
        rw [Nat.mul_comm] at hdm
        refine List.mem_of_getElem? (i := j % sz) ?_
        rw [List.getElem?_take_of_lt hml, List.getElem?_drop, hdm]
        exact hj
      | false =>
        have hs1 : sz = 1 := by rcases h1 with h | h; cases h; exact h
        subst hs1
        have hj' : ds[j / 1]? = some u := by rw [Nat.div_one]; exact hj
        simp only [elV, Bool.false_eq_true, if_false] at hw ⊢
        rw [hj'] at hw ⊢
        simp only [Option.getD_some] at hw ⊢
        have w3 := hw.2.2
        cases hq : isAg u with
        | false => rw [hq] at w3; simp at w3; rw [w3.2]; simp
        | true =>
          rw [hq] at w3
          simp at w3
          rw [w3] at hag
          cases hag
    exact List.all_eq_true.1 hw.2.1 u hmem
  refine tx_ap hO1 hsrc hu hx hs hb hz hzs hby hfit hone q2 hk fun v' H' p1 p2 p3 p4 p5 => K v' H' ⟨_, by simpa using p1, fun i y hy => ?_⟩ p2 p3
  by_cases hi : i < xs.length
  · rw [List.getElem?_append_left hi] at hy
    rw [elV_append_lt hcl hi h1]
    exact hRk _ _ _ _ p3 (hO2 i y hy)
  · rw [List.getElem?_append_right (by omega)] at hy
    rw [elV_append_ge hcl (by omega) h1]
    exact hRk _ _ _ _ p3 (hY2 _ y hy)
theorem made_get (z : Value) (sz n i : Nat) (hz : z.cells.size = sz) (hi : i < n) (hsz : 0 < sz) : ((made z (n * sz)).drop (i * sz)).take sz = z.cells.toList := by
  have hle : (i + 1) * sz ≤ n * sz := Nat.mul_le_mul_right _ hi
  rw [Nat.succ_mul] at hle
  apply List.ext_getElem?
  intro j
  by_cases hj : j < sz
  · rw [List.getElem?_take_of_lt hj, List.getElem?_drop]
    unfold made
    rw [List.getElem?_map, List.getElem?_range (by omega)]
    simp only [Option.map_some, hz]
    rw [Nat.mul_comm i sz, Nat.mul_add_mod, Nat.mod_eq_of_lt hj]
    simp [hz, hj]
  · rw [List.getElem?_eq_none (by simp; omega), List.getElem?_eq_none (by simp; omega)]
theorem tx_mk {d t e sz by_ n : Nat} {ag : Bool} {x y : Operand} {kl kc : IntKind} {z : Value} {R : SHeap → Value → α → Prop} {a : α} {tk : Tok (ms d t x y :: r) Q} (hu : P.underlying t = some (.slice e)) (hs : sz? P e = some sz) (hb : bytes? P e = some by_) (hz : zero? P e = some z) (hzf : flat z = true)
    (hag : aggB P e = some ag) (hw : Whole P e z) (hx : fev F x = .int kl (n : Int)) (hy : fev F y = .int kc (n : Int)) (hsz : 0 < sz) (hby : 0 < by_) (hfit : by_ * n ≤ 281474976710656) (hR : ∀ H', R H' z a)
    (K : ∀ v H', OwR H.length e sz ag R H' v (List.replicate n a) → Ext H H' → (n = 0 ∧ v = .slice (some ⟨0, 0, none⟩) 0 0 ∧ H' = H ∨ 0 < n ∧ v = .slice (some ⟨H.length, 0, none⟩) n n ∧ H' = H ++ [.own e false (made z (n * sz))]) → XWt P r Q .mk (upd F d v) H') : XWt P (ms d t x y :: r) Q tk F H := by
  have hzs : z.cells.size = sz := by have := hw.1; rw [hs] at this; exact (Option.some.inj this).symm
  by_cases hn : n = 0
  · subst hn
    exact tx_ms0 hu hs hb hx hy (K _ H (OwR.void _ _ _ _ _ _ _) (Ext.refl H) (.inl ⟨rfl, rfl, rfl⟩))
  · refine tx_ms hu hs hb hz hzf hzs hx hy hsz hby (Nat.le_refl _) (by omega) hfit (K _ _ ⟨made z (n * sz), ⟨by simp [made_len], .inr ⟨H.length, 0, n, false, made z (n * sz), by simp, by omega, by simp, Nat.le_refl _, by simp, by simp [made_len], ?_⟩⟩, fun i x hi => ?_⟩ ((Ext.refl H).snoc _ _ _) (.inr ⟨by omega, rfl, rfl⟩))
    · rw [List.drop_zero, List.take_of_length_le (by simp [made_len])]
    · rw [List.getElem?_replicate] at hi
      split at hi
      · rename_i hlt
        obtain rfl := Option.some.inj hi
        have hm := made_get z sz n i hzs hlt hsz
        have : elV ag sz (made z (n * sz)) i = z := by
          have w3 := hw.2.2
          unfold elV
          cases ag with
          | true =>
            have ha : isAg z = true := by
              cases hq : isAg z with
              | true => rfl
              | false => rw [hq] at w3; simp at w3; rw [w3.1] at hag; cases hag
            simp only [if_true]
            rw [hm, Array.toArray_toList]
            exact (ag_cells ha).symm
          | false =>
            have ha : isAg z = false := by
              cases hq : isAg z with
              | false => rfl
              | true => rw [hq] at w3; simp at w3; rw [w3] at hag; cases hag
            rw [ha] at w3
            simp at w3
            have h1 : sz = 1 := by rw [← hzs, w3.2]; rfl
            subst h1
            simp only [Bool.false_eq_true, if_false]
            have h2 : (made z (n * 1))[i]? = (((made z (n * 1)).drop (i * 1)).take 1)[0]? := by
              rw [List.getElem?_take_of_lt (by omega), List.getElem?_drop]; simp
            rw [h2, hm, w3.2]
            rfl
        rw [this]
        exact hR _
      · cases hi
theorem elV_spl {P : Program} {e : Nat} {ag : Bool} {sz n i j : Nat} {cs : List Value} {u : Value} (hl : cs.length = n * sz) (hj : j < n) (hi : i < n) (hw : Whole P e u) (hs : sz? P e = some sz) (hag : aggB P e = some ag) (h1 : ag = true ∨ sz = 1) : elV ag sz (spl cs (j * sz) u.cells.toList) i = if i = j then u else elV ag sz cs i := by
  obtain ⟨w1, w2, w3⟩ := hw
  have hsz : u.cells.size = sz := by rw [hs] at w1; exact (Option.some.inj w1).symm
  have hlej : (j + 1) * sz ≤ n * sz := Nat.mul_le_mul_right _ hj
  have hlei : (i + 1) * sz ≤ n * sz := Nat.mul_le_mul_right _ hi
  rw [Nat.succ_mul] at hlej hlei
  have hfit : j * sz + u.cells.toList.length ≤ cs.length := by simp; omega
  have hget := fun m => spl_get (j := m) hfit
  unfold elV
  cases ag with
  | true =>
    have ha : isAg u = true := by
      cases hq : isAg u with
      | true => rfl
      | false => rw [hq] at w3; simp at w3; rw [w3.1] at hag; cases hag
    simp only [if_true]
    have hd : ((spl cs (j * sz) u.cells.toList).drop (i * sz)).take sz = if i = j then u.cells.toList else (cs.drop (i * sz)).take sz := by
      apply List.ext_getElem?
      intro m
      by_cases hm : m < sz
      · rw [List.getElem?_take_of_lt hm, List.getElem?_drop, hget]
        by_cases hij : i = j
        · subst hij
          rw [if_pos rfl, if_pos ⟨by omega, by simp; omega⟩]
          congr 1
          omega
        · rw [if_neg hij, List.getElem?_take_of_lt hm, List.getElem?_drop]
          rw [if_neg]
          simp only [Array.length_toList, hsz, not_and, Nat.not_lt]
          intro h0
          rcases Nat.lt_or_ge i j with q | q
          · have : (i + 1) * sz ≤ j * sz := Nat.mul_le_mul_right _ q
            rw [Nat.succ_mul] at this
            omega
          · have : (j + 1) * sz ≤ i * sz := Nat.mul_le_mul_right _ (by omega)
            rw [Nat.succ_mul] at this
            omega
      · rw [List.getElem?_eq_none (by simp; omega)]
        split
        · rw [List.getElem?_eq_none (by simp; omega)]
        · rw [List.getElem?_eq_none (by simp; omega)]
    rw [hd]
    split
    · rw [Array.toArray_toList]; exact (ag_cells ha).symm
    · rfl
  | false =>
    have hs1 : sz = 1 := by rcases h1 with h | h; cases h; exact h
    subst hs1
    have ha : isAg u = false := by
      cases hq : isAg u with
      | false => rfl
      | true => rw [hq] at w3; simp at w3; rw [w3] at hag; cases hag
    rw [ha] at w3
    simp at w3
    simp only [Bool.false_eq_true, if_false]
    rw [hget]
    by_cases hij : i = j
    · subst hij
      rw [if_pos rfl, if_pos ⟨by omega, by simp; omega⟩, w3.2]
      simp
    · rw [if_neg hij, if_neg]
      simp only [Array.length_toList, hsz, not_and, Nat.not_lt]
      omega
theorem tx_put {d t e sz n k : Nat} {ag : Bool} {x i y : Operand} {R : SHeap → Value → α → Prop} {xs : List α} {a : α} {tk : Tok (ia d t x i :: st e (T d) y :: r) Q} (hO : OwR k e sz ag R H (fev F x) xs) (hi : fev F i = .int .i64 (n : Int)) (hn : n < xs.length) (ha : R H (fev F y) a)
    (hw : Whole P e (fev F y)) (hy : ∀ v, fev (upd F d v) y = fev F y) (hRk : ∀ H' s' u y, Kept H H' s' e → R H u y → R H' u y) (ht : sliceE P t = some e) (hs : sz? P e = some sz) (hag : aggB P e = some ag) (hsz : 0 < sz)
    (K : ∀ p H', OwR k e sz ag R H' (fev F x) (xs.set n a) → (∀ H0 : SHeap, H0.length ≤ k → Ext H0 H → Ext H0 H') → Kept H H' (fev F x) e → H'.length = H.length → (∀ c, c < k → H'[c]? = H[c]?) → XWt P r Q .mk (upd F d p) H') : XWt P (ia d t x i :: st e (T d) y :: r) Q tk F H := by
  obtain ⟨cs, ⟨hl, hO1⟩, hO2⟩ := hO
  have hsz2 : (fev F y).cells.size = sz := by have := hw.1; rw [hs] at this; exact (Option.some.inj this).symm
  have h1 : ag = true ∨ sz = 1 := by
    cases ag with
    | true => exact .inl rfl
    | false =>
      refine .inr ?_
      have w3 := hw.2.2
      cases hq : isAg (fev F y) with
      | true => rw [hq] at w3; simp at w3; rw [w3] at hag; cases hag
      | false => rw [hq] at w3; simp at w3; rw [← hsz2, w3.2]; rfl
  rcases hO1 with ⟨h0, -⟩ | ⟨b, o, cap, l, all, hv, q1, q2, q3, q4, q5, q6⟩
  · omega
  have hle : (n + 1) * sz ≤ xs.length * sz := Nat.mul_le_mul_right _ hn
  have hle2 : xs.length * sz ≤ cap * sz := Nat.mul_le_mul_right _ q2
  rw [Nat.succ_mul] at hle
  have hbl := (gsI.1 q4).1
  rw [tx_ia, hv, hi, OnSlt_sl, OnIt_int, ht, Gett_some, hs, Gett_some, OnAt_a]
  refine Chkt.mk ⟨by omega, by omega⟩ ?_
  rw [tx_st]
  simp only [fev_T, upd_same, OnPt_ptr, q4, OnOwnt_o, Int.toNat_natCast, hy]
  have hfit : o + n * sz + (fev F y).cells.toList.length ≤ all.length := by simp [hsz2]; omega
  refine Chkt.mk ⟨by rw [hs, hsz2], by simpa using hfit, hw.2.1⟩ ?_
  rw [hy, wrc_spl hfit]
  have hcs : ((spl all (o + n * sz) (fev F y).cells.toList).drop o).take (xs.length * sz) = spl cs (n * sz) (fev F y).cells.toList := by
    have hfit2 : n * sz + (fev F y).cells.toList.length ≤ cs.length := by simp [hsz2, hl]; omega
    apply List.ext_getElem?
    intro j
    by_cases hj : j < xs.length * sz
    · rw [List.getElem?_take_of_lt hj, List.getElem?_drop, spl_get hfit, spl_get hfit2, q6, List.getElem?_take_of_lt hj, List.getElem?_drop]
      by_cases hc : n * sz ≤ j ∧ j < n * sz + (fev F y).cells.toList.length
      · rw [if_pos hc, if_pos ⟨by omega, by omega⟩]
        congr 1
        omega
      · rw [if_neg hc, if_neg (by omega)]
    · rw [List.getElem?_eq_none (by simp; omega), List.getElem?_eq_none (by rw [spl_length hfit2, hl]; omega)]
  have hkept : Kept H (H.set b (.own e l (spl all (o + n * sz) (fev F y).cells.toList))) (fev F x) e := fun b' X hX hb' => by
    have : b ≠ b' := fun e' => by
      subst e'
      rw [q4] at hX
      exact hb' ⟨o, xs.length, cap, hv⟩ (by rw [← Option.some.inj hX]; rfl)
    rw [List.getElem?_set_ne this]; exact hX
  refine K _ _ ⟨spl cs (n * sz) (fev F y).cells.toList, ⟨by rw [spl_length (by simp [hsz2, hl]; omega)]; simpa using hl, .inr ⟨b, o, cap, l, _, by simpa using hv, q1, by simpa using q2, q3, List.getElem?_set_self hbl, by rw [spl_length hfit]; exact q5, by simpa using hcs.symm⟩⟩, fun i x hx => ?_⟩
    (fun H0 h0 hx => hx.set (by omega) (by simp)) hkept (by simp) (fun c hc => List.getElem?_set_ne (by omega))
  have hil : i < xs.length := by have := (gsI.1 hx).1; simpa using this
  rw [elV_spl hl hn hil hw hs hag h1]
  by_cases hin : i = n
  · subst hin
    rw [List.getElem?_set_self hn] at hx
    obtain rfl := Option.some.inj hx
    rw [if_pos rfl]
    exact hRk _ _ _ _ hkept ha
  · rw [List.getElem?_set_ne (Ne.symm hin)] at hx
    rw [if_neg hin]
    exact hRk _ _ _ _ hkept (hO2 i x hx)
theorem tx_slR {bb : Bool} {d t e sz l h : Nat} {ag : Bool} {x : Operand} {lo hi : Option Operand} {R : SHeap → Value → α → Prop} {xs : List α} {tk : Tok ((⟨bb, none, some d, .slice t x lo hi none⟩ : XOp) :: r) Q} (hR : Row e sz ag R H (fev F x) xs) (hu : P.underlying t = some (.slice e)) (hs : sz? P e = some sz) (h1 : ag = true ∨ sz = 1)
    (hl : loOf (fev F) lo = some l) (hh : hiOf (fev F) xs.length hi = some h) (hlh : l ≤ h) (hhn : h ≤ xs.length) (K : ∀ v', Row e sz ag R H v' ((xs.drop l).take (h - l)) → XWt P r Q .mk (upd F d v') H) : XWt P ((⟨bb, none, some d, .slice t x lo hi none⟩ : XOp) :: r) Q tk F H := by
  obtain ⟨cs, hS, hE⟩ := hR
  refine tx_slb hS hu hs hl hh hlh hhn fun v' hS' => K v' ⟨_, by simpa [show min (h - l) (xs.length - l) = h - l by omega] using hS', fun i y hy => ?_⟩
  have hil : i < h - l := by
    have := (gsI.1 hy).1
    simp at this
    omega
  rw [List.getElem?_take_of_lt hil, List.getElem?_drop] at hy
  have := hE _ _ hy
  have e1 : elV ag sz ((cs.drop (l * sz)).take ((h - l) * sz)) i = elV ag sz cs (l + i) := by
    have hle : (i + 1) * sz ≤ (h - l) * sz := Nat.mul_le_mul_right _ hil
    rw [Nat.succ_mul] at hle
    unfold elV
    cases ag with
    | true =>
      simp only [if_true]
      rw [List.drop_take, List.drop_drop, List.take_take, Nat.min_eq_left (by omega), ← Nat.add_mul]
    | false =>
      have hs1 : sz = 1 := by rcases h1 with h | h; cases h; exact h
      subst hs1
      simp only [Bool.false_eq_true, if_false, Nat.mul_one]
      rw [List.getElem?_take_of_lt hil, List.getElem?_drop]
  rw [e1]
  exact this
end
section
variable {P : Program} {r : List XOp} {F : Fr} {H : SHeap} {Q : Fr → SHeap → Prop}
theorem tx_slX {bb : Bool} {d t e sz b i len cap l h : Nat} {X : SObj} {x : Operand} {lo hi : Option Operand} {tk : Tok ((⟨bb, none, some d, .slice t x lo hi none⟩ : XOp) :: r) Q} (hv : fev F x = .slice (some ⟨b, i, none⟩) len cap) (hX : H[b]? = some X) (he : X.elem? = some e) (hu : P.underlying t = some (.slice e)) (hs : sz? P e = some sz)
    (hl : loOf (fev F) lo = some l) (hh : hiOf (fev F) len hi = some h) (h1 : l ≤ h) (h2 : h ≤ cap) (hlc : l < cap) (K : XWt P r Q .mk (upd F d (.slice (some ⟨b, i + l * sz, none⟩) (h - l) (cap - l))) H) : XWt P ((⟨bb, none, some d, .slice t x lo hi none⟩ : XOp) :: r) Q tk F H := by
  have hsop : sop P (fev F) H (.slice t x lo hi none) = none := by simp only [sop, hv]
  have hF : ∀ o : Oper, o.op = .slice t x lo hi none → isF P o = false := fun o ho => by simp [isF, ho]
  exact tx_mx (v := .slice (some ⟨b, i + l * sz, none⟩) (h - l) (cap - l)) (H1 := H) rfl rfl hsop (fun o ho => .slice ho hu hs hv hX he hl hh h1 h2 hlc) hF (.inr (Ext.refl H)) K
end
section
variable {α : Type} {e sz k : Nat} {ag : Bool} {R : SHeap → Value → α → Prop} {H : SHeap} {v : Value} {xs : List α}
theorem OwR.set_lt {b : Nat} {X : SObj} (h : OwR k e sz ag R H v xs) (hb : b < k) (hR : ∀ u y, R H u y → R (H.set b X) u y) : OwR k e sz ag R (H.set b X) v xs := by
  obtain ⟨cs, ⟨h1, h2⟩, h3⟩ := h
  refine ⟨cs, ⟨h1, ?_⟩, fun i y hi => hR _ _ (h3 i y hi)⟩
  rcases h2 with h2 | ⟨c, i, cap, l, all, q1, q2, q3, q4, q5, q6⟩
  · exact .inl h2
  · exact .inr ⟨c, i, cap, l, all, q1, q2, q3, q4, by rw [List.getElem?_set_ne (by omega)]; exact q5, q6⟩
end
section
variable {P : Program} {F G : Fr} {H : SHeap} {Q : SExit → Fr → Fr → SHeap → Prop}
theorem LoopZt.range {m k id C I N D t : Nat} {B : ZCode} {tk : Tok (ZCode.seq (.ops [.xs [bi C .lss t (T I) (T N)]]) (.seq (.cond (T C) .skip (.exit id)) (.seq B (.ops [.xs [bi D .add t (T I) (Sx.I 1), mv I (T D)]])))) Q}
    (ha : asC m k (ZCode.seq (.ops [.xs [bi C .lss t (T I) (T N)]]) (.seq (.cond (T C) .skip (.exit id)) (.seq B (.ops [.xs [bi D .add t (T I) (Sx.I 1), mv I (T D)]])))) = true) (n : Nat) (hn : n < 9223372036854775807) (hN : F N = .int .i64 (n : Int)) (hNm : inM m N = false) (h0i : F I = .int .i64 0) (hCI : C ≠ I) (hDI : D ≠ I)
    (Inv : Nat → Fr → Fr → SHeap → Prop) (h0 : Inv 0 F G H)
    (body : ∀ (i : Nat) (F1 G1 : Fr) (H1 : SHeap), i < n → mix m F F1 I = .int .i64 (i : Int) → Inv i (mix m F F1) (mix k G G1) H1 → ∀ K : Fr → Fr → SHeap → Prop, (∀ F2 G2 H2, F2 I = .int .i64 (i : Int) → Inv (i + 1) (upd (upd F2 D (.int .i64 ((i + 1 : Nat) : Int))) I (.int .i64 ((i + 1 : Nat) : Int))) G2 H2 → K F2 G2 H2) →
      ZXt P B (seqZ K Q) .mk (upd (mix m F F1) C (.bool true)) (mix k G G1) H1)
    (fin : ∀ (F1 G1 : Fr) (H1 : SHeap), mix m F F1 I = .int .i64 (n : Int) → Inv n (mix m F F1) (mix k G G1) H1 → Q (.exit id) (upd (mix m F F1) C (.bool false)) (mix k G G1) H1) :
    LoopZt P m k (ZCode.seq (.ops [.xs [bi C .lss t (T I) (T N)]]) (.seq (.cond (T C) .skip (.exit id)) (.seq B (.ops [.xs [bi D .add t (T I) (Sx.I 1), mv I (T D)]])))) Q tk F G H := by
  refine LoopZt.mk ha (fun n' F1 G1 H1 => ∃ i, n' = n - i ∧ i ≤ n ∧ F1 I = .int .i64 (i : Int) ∧ Inv i F1 G1 H1) n ⟨0, by omega, by omega, by simpa using h0i, h0⟩ ?_
  rintro n' F1 G1 H1 ⟨i, rfl, hi, hI, hInv⟩ K hK
  have hN1 : mix m F F1 N = .int .i64 (n : Int) := by
    simp only [mix]
    rw [if_neg (by simpa [inM] using hNm)]
    exact hN
  generalize hFF : mix m F F1 = FF at *
  simp only [tzx_seq, tzx_ops, tz_xs, tx_bi, fev_T, hI, hN1, sbin_lss, Gett_some, tx_nil, tz_nil, seqZ_n, tzx_cond, upd_same, OnBt_bool]
  refine Brt.mkD (fun hlt => ?_) (fun hge => ?_)
  · have hlt' : i < n := by omega
    have hd : decide ((i : Int) < (n : Int)) = true := decide_eq_true hlt
    simp only [hd, tzx_skip, seqZ_n]
    have := body i F1 G1 H1 hlt' (by rw [hFF]; exact hI) (by rw [hFF]; exact hInv) (fun F2 G2 H2 => XWt P [bi D .add t (T I) (Sx.I 1), mv I (T D)] (fun F1 H1 => K F1 G2 H1) .mk F2 H2) fun F2 G2 H2 hF2 hInv2 => ?_
    · rw [hFF] at this
      refine ZX.mono (x := B) (fun e F2 G2 H2 h => ?_) this
      cases e with
      | normal => exact h
      | exit id => exact h
      | ret => exact h
    · simp only [tx_bi, fev_T, fev_I, hF2, sbin_add, Gett_some, tx_mv, upd_same, tx_nil]
      have hw : IntKind.wrap .i64 ((i : Int) + 1) = ((i + 1 : Nat) : Int) := by rw [w64 (by omega) (by omega)]; simp
      rw [hw]
      exact hK (n - (i + 1)) _ _ _ (by omega) ⟨i + 1, rfl, by omega, upd_same _ _ _, hInv2⟩
  · have hd : decide ((i : Int) < (n : Int)) = false := decide_eq_false hge
    have hin : i = n := by omega
    subst hin
    simp only [hd, tzx_exit, seqZ_e]
    have := fin F1 G1 H1 (by rw [hFF]; exact hI) (by rw [hFF]; exact hInv)
    rw [hFF] at this
    exact this
end
end Go.Sx
end
