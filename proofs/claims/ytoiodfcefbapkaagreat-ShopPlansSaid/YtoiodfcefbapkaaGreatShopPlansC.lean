/- Part of the proof of ShopPlans. -/
import Derived.Test.YtoiodfcefbapkaaGreatShopPlansB
set_option linter.unusedVariables false
set_option linter.unusedSimpArgs false
section
namespace Go.Sx
structure XOp where
  b : Bool
  g : Option (Nat × Bool)
  d : Option Nat
  op : Op
inductive XCode where
  | skip
  | ret
  | exit (id : Nat)
  | seq (x y : XCode)
  | cond (c : Operand) (x y : XCode)
  | block (id : Nat) (x : XCode)
  | loop (x : XCode)
  | ops (l : List XOp)
  | opsL (l : List XOp)
structure XFunc where
  code : XCode
  results : List ResultVar
def normOp : Op → Op
  | .call { callee := .value f, args, .. } => .call { callee := .value f, args, argTypes := #[] }
  | .binOp op t x y _ => .binOp op t x y 0
  | .unOp op _ x => .unOp op 0 x
  | op => op
def needB (P : Program) : Op → Bool
  | .move _ | .assign _ | .pick .. | .alloc _ | .box .. | .load .. | .nilCheck _ | .binOp .. | .unOp .. | .makeInterface .. | .makeFunc .. | .fieldAddr .. | .field .. | .indexAddr .. | .index .. | .extract .. | .build .. => false
  | .call { callee := .builtin .len, .. } | .call { callee := .builtin .max, .. } | .call { callee := .builtin .min, .. } => false
  | .convert s t _ => !(intB P s && intB P t)
  | _ => true
def dstOk (n : Nat) : Option Tmp → Bool
  | some d => decide (d < n)
  | none => true
def compOp (P : Program) (n : Nat) (ops : Array Oper) (draw : Bool) (o : Oper) (k : Nat) : Option XOp :=
  if dstOk n o.dst = true then
    match o.guard with
    | none => some ⟨!draw || !needB P o.op || barB P ops k, none, o.dst, normOp o.op⟩
    | some (j, w) => match (ops[j]?).bind (·.dst) with
      | some d => some ⟨!draw || !needB P o.op || barB P ops k, some (d, w), o.dst, normOp o.op⟩
      | none => none
  else none
def compOps (P : Program) (n : Nat) (ops : Array Oper) (draw : Bool) : List Oper → Nat → Option (List XOp)
  | [], _ => some []
  | o :: rest, k => match compOp P n ops draw o k, compOps P n ops draw rest (k + 1) with
    | some x, some xs => some (x :: xs)
    | _, _ => none
def hasLate (P : Program) (ops : Array Oper) : Bool := ops.toList.zipIdx.any fun oi => isStore oi.1.op && !barB P ops oi.2
def compCode (P : Program) (n : Nat) : Code → Option XCode
  | .skip => some .skip
  | .ret => some .ret
  | .exit id => some (.exit id)
  | .seq a b => match compCode P n a, compCode P n b with
    | some x, some y => some (.seq x y)
    | _, _ => none
  | .cond c a b => if okOperand c = true then (match compCode P n a, compCode P n b with
    | some x, some y => some (.cond c x y)
    | _, _ => none) else none
  | .block id a => (compCode P n a).map (.block id)
  | .loop a => (compCode P n a).map .loop
  | .region id ops draw => if draw && hasLate P ops then (if constsOk ops && (regChk ops && lateB P ops) then (compOps P n ops true ops.toList 0).map .opsL else none)
    else if constsOk ops && (!draw || regChk ops) then (compOps P n ops draw ops.toList 0).map .ops else none
  | _ => none
def comp (P : Program) (fn : Func) : Option XFunc := match fn.body with
  | some c => (compCode P fn.ntmps c).map fun x => ⟨x, fn.results.toList⟩
  | none => none
abbrev Fr := Nat → Value
def upd (F : Fr) (d : Nat) (v : Value) : Fr := fun i => if i = d then v else F i
theorem upd_same (F : Fr) (d : Nat) (v : Value) : upd F d v d = v := by simp [upd]
theorem upd_ne (F : Fr) {d i : Nat} (v : Value) (h : i ≠ d) : upd F d v i = F i := by simp [upd, h]
def argF (args : List Value) : Fr := fun i => args.getD i undef
def fev (F : Fr) : Operand → Value
  | .tmp i => F i
  | .const v => v
  | .global g => .pointer (some ⟨0, g, some 0⟩)
  | .func f => .func (.func f) #[] #[]
def fput (F : Fr) (d : Option Nat) (v : Value) : Fr := match d with
  | some d => upd F d v
  | none => F
theorem sev_gt (t : List Value) : sev t = fev (gt t) := by funext x; cases x <;> rfl
theorem gt_sput (t : List Value) (d : Option Tmp) (v : Value) (h : ∀ e, d = some e → e < t.length) : gt (sput t d v) = fput (gt t) d v := by
  cases d with
  | none => rfl
  | some e =>
    funext i
    simp only [sput, fput, upd, gt_set]
    by_cases hi : i = e
    · subst hi; simp [h i rfl]
    · rw [if_neg (Ne.symm hi), if_neg hi]
theorem sput_length (t : List Value) (d : Option Tmp) (v : Value) : (sput t d v).length = t.length := by cases d <;> simp [sput]
def MQ (P : Program) (ρ : Operand → Value) (H : SHeap) (op : Op) (v : Value) (H1 : SHeap) : Prop := ∀ o : Oper, o.op = op → isF P o = false ∧ MOp P ρ H o v H1
def mxOp : Op → Bool
  | .slice .. | .makeSlice .. | .buildSlice .. | .convert .. | .call { callee := .builtin .append, .. } | .call { callee := .builtin .copy, .. } => true
  | _ => false
def XS (P : Program) (b : Bool) (F : Fr) (H : SHeap) (K : Value → SHeap → Prop) : Op → Prop
  | .call { callee := .value f, args, .. } => (match fev F f with
    | .func (.func g) first cap => SW P g (first.toList ++ args.toList.map (fev F) ++ cap.toList) H fun v H1 => (b = true ∨ Ext H H1) ∧ K v H1
    | _ => False)
  | op => (match sop P (fev F) H op with
    | some (v, H1) => (isStore op = true → b = true) ∧ K v H1
    | none => mxOp op = true ∧ ∃ v H1, MQ P (fev F) H op v H1 ∧ (b = true ∨ Ext H H1) ∧ K v H1)
def XW (P : Program) : List XOp → Fr → SHeap → (Fr → SHeap → Prop) → Prop
  | [], F, H, Q => Q F H
  | x :: rest, F, H, Q => match x.g with
    | none => XS P x.b F H (fun v H1 => XW P rest (fput F x.d v) H1 Q) x.op
    | some (j, w) => if boolOf (F j) = some w then XS P x.b F H (fun v H1 => XW P rest (fput F x.d v) H1 Q) x.op else XW P rest (fput F x.d undef) H Q
def XL (P : Program) : List XOp → Fr → SHeap → List Nat → List Nat → (Fr → SHeap → Prop) → Prop
  | [], F, H, _, _, Q => Q F H
  | x :: rest, F, H, R, W, Q => match x.g with
    | none => LX P x.b (fev F) H R W (fun v H1 R1 W1 => XL P rest (fput F x.d v) H1 R1 W1 Q) x.op
    | some (j, w) => if boolOf (F j) = some w then LX P x.b (fev F) H R W (fun v H1 R1 W1 => XL P rest (fput F x.d v) H1 R1 W1 Q) x.op else XL P rest (fput F x.d undef) H R W Q
def seqX (K : Fr → SHeap → Prop) (Q : SExit → Fr → SHeap → Prop) : SExit → Fr → SHeap → Prop
  | .normal, F, H => K F H
  | e, F, H => Q e F H
def blockX (id : Nat) (Q : SExit → Fr → SHeap → Prop) : SExit → Fr → SHeap → Prop
  | .exit id', F, H => if id' = id then Q .normal F H else Q (.exit id') F H
  | e, F, H => Q e F H
inductive LoopX (body : Fr → SHeap → (SExit → Fr → SHeap → Prop) → Prop) (Q : SExit → Fr → SHeap → Prop) : Fr → SHeap → Prop
  | round {F : Fr} {H : SHeap} (I : Fr → SHeap → Prop) (h : body F H (seqX I Q)) (hI : ∀ F1 H1, I F1 H1 → LoopX body Q F1 H1) : LoopX body Q F H
def XX (P : Program) : XCode → Fr → SHeap → (SExit → Fr → SHeap → Prop) → Prop
  | .skip, F, H, Q => Q .normal F H
  | .ret, F, H, Q => Q .ret F H
  | .exit id, F, H, Q => Q (.exit id) F H
  | .seq x y, F, H, Q => XX P x F H (seqX (fun F1 H1 => XX P y F1 H1 Q) Q)
  | .cond c x y, F, H, Q => (match fev F c with
    | .bool b => if b = true then XX P x F H Q else XX P y F H Q
    | _ => False)
  | .block id x, F, H, Q => XX P x F H (blockX id Q)
  | .loop x, F, H, Q => LoopX (XX P x) Q F H
  | .ops l, F, H, Q => XW P l F H (fun F1 H1 => Q .normal F1 H1)
  | .opsL l, F, H, Q => XL P l F H [] [] (fun F1 H1 => Q .normal F1 H1)
def XR (P : Program) (F : Fr) (H : SHeap) : List ResultVar → (List Value → Prop) → Prop
  | [], K => K []
  | .tmp i :: rs, K => XR P F H rs fun vs => K (F i :: vs)
  | .cell a ty :: rs, K => (match F a with
    | .pointer (some ⟨b, i, none⟩) => (match cellsAt H b with
      | some cs => (match aggB P ty with
        | some false => (match cs[i]? with
          | some v => XR P F H rs fun vs => K (v :: vs)
          | none => False)
        | some true => (match sz? P ty with
          | some n => i + n ≤ cs.length ∧ XR P F H rs fun vs => K (.agg ((cs.drop i).take n).toArray :: vs)
          | none => False)
        | none => False)
      | none => False)
    | _ => False)
def retX (P : Program) (rs : List ResultVar) (Q : Value → SHeap → Prop) : SExit → Fr → SHeap → Prop
  | .normal, F, H => XR P F H rs fun vs => Q (retOf vs) H
  | .ret, F, H => XR P F H rs fun vs => Q (retOf vs) H
  | .exit _, _, _ => False
section
variable {P : Program}
theorem sop_norm (ρ : Operand → Value) (H : SHeap) (op : Op) : sop P ρ H (normOp op) = sop P ρ H op := by
  cases op <;> try rfl
  rename_i c
  obtain ⟨callee, args, ats⟩ := c
  cases callee <;> rfl
theorem mop_ext {ρ : Operand → Value} {H H1 : SHeap} {o : Oper} {v : Value} (h : MOp P ρ H o v H1) (hn : needB P o.op = false) : Ext H H1 := by
  have one : ∀ {e : TypeId} {l : Bool} {cs : List Value}, Ext H (H ++ [.own e l cs]) := fun {e l cs} => ⟨[.own e l cs], rfl, fun x hx e' cs' => by simp at hx; subst hx; simp⟩
  cases h with
  | ofPure => exact Ext.refl H
  | alloc => exact one
  | box => exact one
  | load1 => exact Ext.refl H
  | loadA => exact Ext.refl H
  | store h => rw [h] at hn; cases hn
  | slice h => exact Ext.refl H
  | sliceEnd => exact Ext.refl H
  | sliceZero => exact Ext.refl H
  | slice3v => exact Ext.refl H
  | slice3n => exact Ext.refl H
  | make => exact one
  | make0 => exact Ext.refl H
  | build => exact one
  | build0 => exact Ext.refl H
  | app0 => exact Ext.refl H
  | appNew => exact one
  | appIn h => rw [h] at hn; cases hn
  | appGrow => exact one
  | appMove h => rw [h] at hn; cases hn
  | copy h => rw [h] at hn; cases hn
  | copy0 => exact Ext.refl H
  | str => exact Ext.refl H
theorem ox_of_xs {ops : Array Oper} {draw : Bool} {k : Nat} {o : Oper} {t : List Value} {H : SHeap} {K : List Value → SHeap → Prop} {K' : Value → SHeap → Prop} (hK : ∀ v H1, K' v H1 → K (sput t o.dst v) H1)
    (h : XS P (!draw || !needB P o.op || barB P ops k) (gt t) H K' (normOp o.op)) : OX P ops draw k o t H K o.op := by
  have bar : needB P o.op = true → (!draw || !needB P o.op || barB P ops k) = true → draw = true → barB P ops k = true := fun h1 h2 h3 => by simpa [h1, h3] using h2
  have fin : (needB P o.op = true ∨ isStore o.op = false) → isStore (normOp o.op) = isStore o.op → (normOp o.op = o.op ∨ isF P o = true) → (isF P o = true → ∀ o' : Oper, o'.op = normOp o.op → isF P o' = true) → (match sop P (fev (gt t)) H (normOp o.op) with
      | some (v, H1) => (isStore (normOp o.op) = true → (!draw || !needB P o.op || barB P ops k) = true) ∧ K' v H1
      | none => mxOp (normOp o.op) = true ∧ ∃ v H1, MQ P (fev (gt t)) H (normOp o.op) v H1 ∧ ((!draw || !needB P o.op || barB P ops k) = true ∨ Ext H H1) ∧ K' v H1) →
      (match sop P (sev t) H o.op with
      | some (v, H1) => EC P ops draw k (isStore o.op) ∧ K (sput t o.dst v) H1
      | none => ∃ v H1, isF P o = false ∧ MOp P (sev t) H o v H1 ∧ ECx P ops draw k H H1 ∧ K (sput t o.dst v) H1) := by
    intro hst hns hno hF hs
    rw [sop_norm] at hs
    rw [sev_gt]
    split at hs
    · rename_i v H1 hv
      refine ⟨fun h1 h2 => ?_, hK _ _ hs.2⟩
      rcases hst with hst | hst
      · exact bar hst (hs.1 (by rw [hns]; exact h2)) h1
      · rw [hst] at h2; cases h2
    · obtain ⟨-, v, H1, hm, he, hKK⟩ := hs
      rcases hno with hno | hno
      · obtain ⟨q1, q2⟩ := hm o hno.symm
        refine ⟨v, H1, q1, q2, fun h1 => ?_, hK _ _ hKK⟩
        cases hnb : needB P o.op with
        | false => exact .inr (mop_ext q2 hnb)
        | true =>
          rcases he with he | he
          · exact .inl (bar hnb he h1)
          · exact .inr he
      · have q1 := (hm ⟨o.dst, normOp o.op, o.type, o.pos, o.after, o.guard⟩ rfl).1
        rw [hF hno _ rfl] at q1
        cases q1
  cases hop : o.op <;> rw [hop] at h fin bar <;> try (exact fin (by simp [needB, isStore]) rfl (.inl rfl) (fun hf o' ho' => by first | (simp only [isF, hop, ho', normOp] at hf ⊢; exact hf) | (simp [isF, hop] at hf; try (simp [isF, ho', normOp]))) h; done)
  case binOp op ty x y yt => exact fin (.inr rfl) rfl (.inr (by simp [isF, hop])) (fun _ o' ho' => by simp [isF, ho', normOp]) h
  case unOp op ty x => exact fin (.inr rfl) rfl (.inr (by simp [isF, hop])) (fun _ o' ho' => by simp [isF, ho', normOp]) h
  case call c =>
    obtain ⟨callee, args, ats⟩ := c
    cases callee with
    | value f =>
      simp only [normOp, XS] at h
      simp only [OX, sev_gt]
      split at h
      · rename_i g first cap hf
        rw [hf]
        refine h.mono fun v H1 hh => ⟨fun h1 => ?_, hK _ _ hh.2⟩
        rcases hh.1 with he | he
        · exact .inl (bar rfl he h1)
        · exact .inr he
      · exact h.elim
    | invoke r m => exact fin (.inl rfl) rfl (.inl rfl) (fun hf => by simp [isF, hop] at hf) h
    | builtin bi => exact fin (.inr rfl) rfl (.inl rfl) (fun hf o' ho' => by simp only [isF, hop, ho', normOp] at hf ⊢; exact hf) h
theorem ow_of_xw {n : Nat} {ops : Array Oper} {draw : Bool} : ∀ (rest : List Oper) (k : Nat) (xs : List XOp) (t : List Value) (H : SHeap) (Q : List Value → SHeap → Prop) (Q' : Fr → SHeap → Prop), compOps P n ops draw rest k = some xs → t.length = n →
    (∀ t1 H1, t1.length = n → Q' (gt t1) H1 → Q t1 H1) → XW P xs (gt t) H Q' → OW P ops draw k rest t H Q
  | [], k, xs, t, H, Q, Q', hc, hl, hQ, h => by
    simp only [compOps, Option.some.injEq] at hc
    subst hc
    exact hQ t H hl h
  | o :: rest, k, xs, t, H, Q, Q', hc, hl, hQ, h => by
    simp only [compOps] at hc
    cases hx : compOp P n ops draw o k with
    | none => simp [hx] at hc
    | some x =>
      cases hys : compOps P n ops draw rest (k + 1) with
      | none => simp [hx, hys] at hc
      | some ys =>
        simp only [hx, hys, Option.some.injEq] at hc
        subst hc
        unfold compOp at hx
        split at hx
        · rename_i hd
          have hdst : ∀ e, o.dst = some e → e < t.length := fun e he => by
            rw [he] at hd
            rw [hl]
            exact of_decide_eq_true hd
          have rec_ : ∀ v H1, XW P ys (fput (gt t) o.dst v) H1 Q' → OW P ops draw (k + 1) rest (sput t o.dst v) H1 Q := fun v H1 h1 =>
            ow_of_xw rest (k + 1) ys _ H1 Q Q' hys (by rw [sput_length]; exact hl) hQ (by rw [gt_sput t o.dst v hdst]; exact h1)
          simp only [OW]
          cases hg : o.guard with
          | none =>
            rw [hg] at hx
            obtain rfl := Option.some.inj hx
            have hw : Region.wanted o (syielded ops t) = true := by simp [Region.wanted, hg]
            rw [if_pos hw]
            exact ox_of_xs rec_ h
          | some jw =>
            obtain ⟨j, w⟩ := jw
            rw [hg] at hx
            simp only at hx
            cases hdj : (ops[j]?).bind (·.dst) with
            | none => rw [hdj] at hx; cases hx
            | some d =>
              rw [hdj] at hx
              obtain rfl := Option.some.inj hx
              have hw : Region.wanted o (syielded ops t) = (boolOf (gt t d) == some w) := by
                simp only [Region.wanted, hg, syielded_gt, hdj]
              rw [hw]
              simp only [XW] at h
              by_cases hb : boolOf (gt t d) = some w
              · rw [if_pos hb] at h
                rw [if_pos (by simpa using hb)]
                exact ox_of_xs rec_ h
              · rw [if_neg hb] at h
                rw [if_neg (by simpa using hb)]
                exact rec_ _ _ h
        · cases hx
theorem lx_norm (b : Bool) (ρ : Operand → Value) (H : SHeap) (R W : List Nat) (K : Value → SHeap → List Nat → List Nat → Prop) (op : Op) (h : LX P b ρ H R W K (normOp op)) : LX P b ρ H R W K op := by
  have e := sop_norm (P := P) ρ H op
  cases op with
  | call c =>
    obtain ⟨callee, args, ats⟩ := c
    cases callee <;> exact h
  | binOp op ty x y yt =>
    simp only [normOp, LX] at h ⊢
    simp only [normOp] at e
    rw [← e]; exact h
  | unOp op ty x =>
    simp only [normOp, LX] at h ⊢
    simp only [normOp] at e
    rw [← e]; exact h
  | _ => exact h
theorem LX.mono {b : Bool} {ρ : Operand → Value} {H : SHeap} {R W : List Nat} {K K' : Value → SHeap → List Nat → List Nat → Prop} (hk : ∀ v H1 R1 W1, K v H1 R1 W1 → K' v H1 R1 W1) {op : Op} (h : LX P b ρ H R W K op) : LX P b ρ H R W K' op := by
  cases op with
  | load ty x =>
    simp only [LX] at h ⊢
    split at h
    · refine ⟨h.1, ?_⟩
      have h2 := h.2
      split at h2
      · exact hk _ _ _ _ h2
      · exact h2
    · exact h
  | store ty x y =>
    simp only [LX] at h ⊢
    split at h
    · refine ⟨h.1, ?_⟩
      have h2 := h.2
      split at h2
      · exact hk _ _ _ _ h2
      · exact h2
    · exact h
  | _ =>
    simp only [LX] at h ⊢
    split at h
    · exact hk _ _ _ _ h
    · exact h.elim
theorem lx_flag {b : Bool} {ρ : Operand → Value} {H : SHeap} {R W : List Nat} {K : Value → SHeap → List Nat → List Nat → Prop} {op : Op} (h : LX P (!true || !needB P op || b) ρ H R W K (normOp op)) : LX P b ρ H R W K (normOp op) := by
  cases op with
  | store t x y => exact h
  | call c => obtain ⟨callee, args, ats⟩ := c; cases callee <;> exact h
  | _ => exact h
theorem ol_of_xl {n : Nat} {ops : Array Oper} : ∀ (rest : List Oper) (k : Nat) (xs : List XOp) (t : List Value) (H : SHeap) (R W : List Nat) (Q : List Value → SHeap → Prop) (Q' : Fr → SHeap → Prop), compOps P n ops true rest k = some xs → t.length = n →
    (∀ t1 H1, t1.length = n → Q' (gt t1) H1 → Q t1 H1) → XL P xs (gt t) H R W Q' → OL P ops k rest t H R W Q
  | [], k, xs, t, H, R, W, Q, Q', hc, hl, hQ, h => by
    simp only [compOps, Option.some.injEq] at hc
    subst hc
    exact hQ t H hl h
  | o :: rest, k, xs, t, H, R, W, Q, Q', hc, hl, hQ, h => by
    simp only [compOps] at hc
    cases hx : compOp P n ops true o k with
    | none => simp [hx] at hc
    | some x =>
      cases hys : compOps P n ops true rest (k + 1) with
      | none => simp [hx, hys] at hc
      | some ys =>
        simp only [hx, hys, Option.some.injEq] at hc
        subst hc
        unfold compOp at hx
        split at hx
        · rename_i hd
          have hdst : ∀ e, o.dst = some e → e < t.length := fun e he => by
            rw [he] at hd
            rw [hl]
            exact of_decide_eq_true hd
          have rec_ : ∀ v H1 R1 W1, XL P ys (fput (gt t) o.dst v) H1 R1 W1 Q' → OL P ops (k + 1) rest (sput t o.dst v) H1 R1 W1 Q := fun v H1 R1 W1 h1 =>
            ol_of_xl rest (k + 1) ys _ H1 R1 W1 Q Q' hys (by rw [sput_length]; exact hl) hQ (by rw [gt_sput t o.dst v hdst]; exact h1)
          simp only [OL]
          cases hg : o.guard with
          | none =>
            rw [hg] at hx
            obtain rfl := Option.some.inj hx
            have hw : Region.wanted o (syielded ops t) = true := by simp [Region.wanted, hg]
            rw [if_pos hw]
            simp only [XL] at h
            rw [sev_gt]
            exact LX.mono (fun v H1 R1 W1 => rec_ v H1 R1 W1) (lx_norm _ _ _ _ _ _ _ (lx_flag h))
          | some jw =>
            obtain ⟨j, w⟩ := jw
            rw [hg] at hx
            simp only at hx
            cases hdj : (ops[j]?).bind (·.dst) with
            | none => rw [hdj] at hx; cases hx
            | some d =>
              rw [hdj] at hx
              obtain rfl := Option.some.inj hx
              have hw : Region.wanted o (syielded ops t) = (boolOf (gt t d) == some w) := by
                simp only [Region.wanted, hg, syielded_gt, hdj]
              rw [hw]
              simp only [XL] at h
              by_cases hb : boolOf (gt t d) = some w
              · rw [if_pos hb] at h
                rw [if_pos (by simpa using hb), sev_gt]
                exact LX.mono (fun v H1 R1 W1 => rec_ v H1 R1 W1) (lx_norm _ _ _ _ _ _ _ (lx_flag h))
              · rw [if_neg hb] at h
                rw [if_neg (by simpa using hb)]
                exact rec_ _ _ _ _ h
        · cases hx
theorem cx_of_xx {n : Nat} : ∀ (c : Code) (x : XCode) (t : List Value) (H : SHeap) (Q : SExit → List Value → SHeap → Prop) (Q' : SExit → Fr → SHeap → Prop), compCode P n c = some x → t.length = n →
    (∀ e t1 H1, t1.length = n → Q' e (gt t1) H1 → Q e t1 H1) → XX P x (gt t) H Q' → CX P c t H Q
  | .skip, x, t, H, Q, Q', hc, hl, hQ, h => by simp only [compCode, Option.some.injEq] at hc; subst hc; exact hQ _ _ _ hl h
  | .ret, x, t, H, Q, Q', hc, hl, hQ, h => by simp only [compCode, Option.some.injEq] at hc; subst hc; exact hQ _ _ _ hl h
  | .exit id, x, t, H, Q, Q', hc, hl, hQ, h => by simp only [compCode, Option.some.injEq] at hc; subst hc; exact hQ _ _ _ hl h
  | .seq a b, x, t, H, Q, Q', hc, hl, hQ, h => by
    simp only [compCode] at hc
    cases ha : compCode P n a with
    | none => simp [ha] at hc
    | some xa =>
      cases hb : compCode P n b with
      | none => simp [ha, hb] at hc
      | some xb =>
        simp only [ha, hb, Option.some.injEq] at hc
        subst hc
        refine cx_of_xx a xa t H _ _ ha hl (fun e t1 H1 hl1 hq => ?_) h
        cases e with
        | normal => exact cx_of_xx b xb t1 H1 Q Q' hb hl1 hQ hq
        | exit id => exact hQ _ _ _ hl1 hq
        | ret => exact hQ _ _ _ hl1 hq
  | .cond c a b, x, t, H, Q, Q', hc, hl, hQ, h => by
    simp only [compCode] at hc
    split at hc
    · rename_i hk
      cases ha : compCode P n a with
      | none => simp [ha] at hc
      | some xa =>
        cases hb : compCode P n b with
        | none => simp [ha, hb] at hc
        | some xb =>
          simp only [ha, hb, Option.some.injEq] at hc
          subst hc
          refine ⟨hk, ?_⟩
          simp only [XX] at h
          rw [sev_gt]
          split at h
          · rename_i bb hbb
            rw [hbb]
            simp only
            cases bb with
            | true => simp only [if_true] at h ⊢; exact cx_of_xx a xa t H Q Q' ha hl hQ h
            | false => simp only [Bool.false_eq_true, if_false] at h ⊢; exact cx_of_xx b xb t H Q Q' hb hl hQ h
          · exact h.elim
    · cases hc
  | .block id a, x, t, H, Q, Q', hc, hl, hQ, h => by
    simp only [compCode] at hc
    obtain ⟨xa, ha, rfl⟩ := Option.map_eq_some_iff.1 hc
    refine cx_of_xx a xa t H _ _ ha hl (fun e t1 H1 hl1 hq => ?_) h
    cases e with
    | normal => exact hQ _ _ _ hl1 hq
    | exit id' =>
      simp only [blockX] at hq
      simp only [blockK]
      split at hq
      · rename_i hi; rw [if_pos hi]; exact hQ _ _ _ hl1 hq
      · rename_i hi; rw [if_neg hi]; exact hQ _ _ _ hl1 hq
    | ret => exact hQ _ _ _ hl1 hq
  | .loop a, x, t, H, Q, Q', hc, hl, hQ, h => by
    simp only [compCode] at hc
    obtain ⟨xa, ha, rfl⟩ := Option.map_eq_some_iff.1 hc
    simp only [XX] at h
    show CW P (.loop a) t H Q
    generalize hF : gt t = F at h
    induction h generalizing t with
    | round I hbody hI ih =>
      rename_i F H
      subst hF
      obtain ⟨e, t1, H1, hr, hq⟩ := cx_run a t H (fun e t1 H1 => t1.length = n ∧ seqX I Q' e (gt t1) H1) (cx_of_xx a xa t H _ _ ha hl (fun e t1 H1 hl1 hq => ⟨hl1, hq⟩) hbody)
      obtain ⟨hl1, hq⟩ := hq
      cases e with
      | normal =>
        obtain ⟨e2, t2, H2, hr2, hq2⟩ := ih (gt t1) H1 hq t1 hl1 rfl
        exact ⟨e2, t2, H2, .loopN hr hr2, hq2⟩
      | exit id => exact ⟨.exit id, t1, H1, .loopE hr (by simp), hQ _ _ _ hl1 hq⟩
      | ret => exact ⟨.ret, t1, H1, .loopE hr (by simp), hQ _ _ _ hl1 hq⟩
  | .region id ops draw, x, t, H, Q, Q', hc, hl, hQ, h => by
    simp only [compCode] at hc
    split at hc
    · split at hc
      · rename_i hk
        obtain ⟨xs, hxs, rfl⟩ := Option.map_eq_some_iff.1 hc
        simp only [Bool.and_eq_true] at hk
        exact .inr ⟨hk.1, hk.2.1, hk.2.2, ol_of_xl ops.toList 0 xs t H [] [] _ _ hxs hl (fun t1 H1 hl1 hq => hQ _ _ _ hl1 hq) h⟩
      · cases hc
    split at hc
    · rename_i hk
      obtain ⟨xs, hxs, rfl⟩ := Option.map_eq_some_iff.1 hc
      simp only [Bool.and_eq_true, Bool.or_eq_true, Bool.not_eq_true'] at hk
      refine .inl ⟨hk.1, fun hd => ?_, ?_⟩
      · rcases hk.2 with q | q
        · rw [hd] at q; cases q
        · exact q
      · exact ow_of_xw ops.toList 0 xs t H _ _ hxs hl (fun t1 H1 hl1 hq => hQ _ _ _ hl1 hq) h
    · cases hc
  | .rangeFunc .., x, t, H, Q, Q', hc, _, _, _ => by simp [compCode] at hc
  | .scope .., x, t, H, Q, Q', hc, _, _, _ => by simp [compCode] at hc
  | .label .., x, t, H, Q, Q', hc, _, _, _ => by simp [compCode] at hc
  | .goto .., x, t, H, Q, Q', hc, _, _, _ => by simp [compCode] at hc
  | .refuse .., x, t, H, Q, Q', hc, _, _, _ => by simp [compCode] at hc
theorem rx_of_xr {t : List Value} {H : SHeap} : ∀ (rs : List ResultVar) (K : List Value → Prop), XR P (gt t) H rs K → RX P t H rs K
  | [], K, h => h
  | .tmp i :: rs, K, h => rx_of_xr rs _ h
  | .cell a ty :: rs, K, h => by
    simp only [XR] at h
    simp only [RX]
    split at h
    · rename_i b i hx
      rw [hx]
      simp only
      split at h
      · rename_i cs hcs
        rw [hcs]
        simp only
        split at h
        · rename_i ha
          rw [ha]
          simp only
          split at h
          · rename_i v hv
            rw [hv]
            exact rx_of_xr rs _ h
          · exact h.elim
        · rename_i ha
          rw [ha]
          simp only
          split at h
          · rename_i n hn
            rw [hn]
            exact ⟨h.1, rx_of_xr rs _ h.2⟩
          · exact h.elim
        · exact h.elim
      · exact h.elim
    · exact h.elim
theorem SW.intoR {f : FuncId} {fn : Func} {x : XFunc} {args : List Value} {H : SHeap} {Q : Value → SHeap → Prop} (hf : P.funcs[f]? = some fn) (hn : (fn.name == "runtime.NumGoroutine") = false) (hc : comp P fn = some x) (hl : args.length ≤ fn.ntmps)
    (h : XX P x.code (argF args) H (retX P x.results Q)) : ∃ v H1, Callable P f ∧ Run P (.call f args H) (.val v H1) ∧ Q v H1 := by
  unfold comp at hc
  cases hb : fn.body with
  | none => simp [hb] at hc
  | some c =>
    simp only [hb] at hc
    obtain ⟨xc, hxc, rfl⟩ := Option.map_eq_some_iff.1 hc
    have hF : gt (args ++ List.replicate (fn.ntmps - args.length) undef) = argF args := by
      funext i
      simp only [gt, argF, List.getD_eq_getElem?_getD]
      by_cases hi : i < args.length
      · rw [List.getElem?_append_left hi]
      · rw [List.getElem?_append_right (by omega), List.getElem?_eq_none (l := args) (by omega), List.getElem?_replicate]
        split <;> rfl
    refine SW.enterR hf hn hb (cx_of_xx c xc _ H _ (retX P fn.results.toList Q) hxc (by simp; omega) (fun e t1 H1 hl1 hq => ?_) (by rw [hF]; exact h))
    cases e with
    | normal => exact rx_of_xr _ _ hq
    | exit id => exact hq
    | ret => exact rx_of_xr _ _ hq
theorem SW.into {f : FuncId} {fn : Func} {x : XFunc} {args : List Value} {H : SHeap} {Q : Value → SHeap → Prop} (hf : P.funcs[f]? = some fn) (hn : (fn.name == "runtime.NumGoroutine") = false) (hc : comp P fn = some x) (hl : args.length ≤ fn.ntmps)
    (h : XX P x.code (argF args) H (retX P x.results Q)) : SW P f args H Q := by
  obtain ⟨v, H1, h1, h2, h3⟩ := SW.intoR hf hn hc hl h
  exact ⟨v, H1, .inl ⟨h1, h2⟩, h3⟩
theorem LoopX.inv {body : Fr → SHeap → (SExit → Fr → SHeap → Prop) → Prop} {Q : SExit → Fr → SHeap → Prop} (I : Nat → Fr → SHeap → Prop) (round : ∀ n F H, I n F H → body F H (seqX (fun F1 H1 => ∃ m, m < n ∧ I m F1 H1) Q)) : ∀ (n : Nat) (F : Fr) (H : SHeap), I n F H → LoopX body Q F H := by
  intro n
  induction n using Nat.strongRecOn with
  | _ n ih =>
    intro F H h
    exact .round _ (round n F H h) fun F1 H1 ⟨m, hm, hI⟩ => ih m hm F1 H1 hI
end
def T (i : Nat) : Operand := .tmp i
def I (n : Int) : Operand := .const (.int .i64 n)
def C (v : Value) : Operand := .const v
def Fu (f : Nat) : Operand := .func f
theorem fev_T (F : Fr) (i : Nat) : fev F (T i) = F i := rfl
theorem fev_I (F : Fr) (n : Int) : fev F (I n) = .int .i64 n := rfl
theorem fev_C (F : Fr) (v : Value) : fev F (C v) = v := rfl
theorem fev_Fu (F : Fr) (f : Nat) : fev F (Fu f) = .func (.func f) #[] #[] := rfl
def gd (j : Nat) (w : Bool) (x : XOp) : XOp := { x with g := some (j, w) }
def nb (x : XOp) : XOp := { x with b := false }
def mv (d : Nat) (x : Operand) : XOp := ⟨true, none, some d, .move x⟩
def sa (d : Nat) (x : Operand) : XOp := ⟨true, none, some d, .assign x⟩
def pk (d : Nat) (c a b : Operand) : XOp := ⟨true, none, some d, .pick c a b⟩
def al (d e : Nat) : XOp := ⟨true, none, some d, .alloc e⟩
def bx (d e : Nat) (x : Operand) : XOp := ⟨true, none, some d, .box e x⟩
def ld (d t : Nat) (x : Operand) : XOp := ⟨true, none, some d, .load t x⟩
def st (t : Nat) (x y : Operand) : XOp := ⟨true, none, none, .store t x y⟩
def nc (d : Nat) (x : Operand) : XOp := ⟨true, none, some d, .nilCheck x⟩
def bi (d : Nat) (op : BinOp) (t : Nat) (x y : Operand) : XOp := ⟨true, none, some d, .binOp op t x y 0⟩
def un (d : Nat) (op : UnOp) (x : Operand) : XOp := ⟨true, none, some d, .unOp op 0 x⟩
def cv (d s t : Nat) (x : Operand) : XOp := ⟨true, none, some d, .convert s t x⟩
def mi (d t : Nat) (x : Operand) : XOp := ⟨true, none, some d, .makeInterface t x⟩
def mf (d : Nat) (fn : Fn) (a b : Array Operand) : XOp := ⟨true, none, some d, .makeFunc fn a b⟩
def fa (d s : Nat) (x : Operand) (f : Nat) : XOp := ⟨true, none, some d, .fieldAddr s x f⟩
def fi (d s : Nat) (x : Operand) (f : Nat) : XOp := ⟨true, none, some d, .field s x f⟩
def ia (d t : Nat) (x i : Operand) : XOp := ⟨true, none, some d, .indexAddr t x i⟩
def ix (d t : Nat) (x i : Operand) : XOp := ⟨true, none, some d, .index t x i⟩
def ex (d : Nat) (x : Operand) (i : Nat) : XOp := ⟨true, none, some d, .extract x i⟩
def bd (d t : Nat) (ps : List (Nat × Operand)) : XOp := ⟨true, none, some d, .build t ps.toArray⟩
def bs (d t n : Nat) (ps : List (Nat × Operand)) : XOp := ⟨true, none, some d, .buildSlice t n ps.toArray⟩
def sl (d t : Nat) (x : Operand) (lo hi mx : Option Operand) : XOp := ⟨true, none, some d, .slice t x lo hi mx⟩
def ms (d t : Nat) (x y : Operand) : XOp := ⟨true, none, some d, .makeSlice t x y⟩
def ln (d t : Nat) (x : Operand) : XOp := ⟨true, none, some d, .call { callee := .builtin .len, args := #[x], argTypes := #[t] }⟩
def ap (d ts tx : Nat) (s x : Operand) : XOp := ⟨true, none, some d, .call { callee := .builtin .append, args := #[s, x], argTypes := #[ts, tx] }⟩
def cp (d td ts : Nat) (s x : Operand) : XOp := ⟨true, none, some d, .call { callee := .builtin .copy, args := #[s, x], argTypes := #[td, ts] }⟩
def mxi (d : Nat) (ts : List Nat) (x y : Operand) : XOp := ⟨true, none, some d, .call { callee := .builtin .max, args := #[x, y], argTypes := ts.toArray }⟩
def mni (d : Nat) (ts : List Nat) (x y : Operand) : XOp := ⟨true, none, some d, .call { callee := .builtin .min, args := #[x, y], argTypes := ts.toArray }⟩
def cl (d f : Nat) (args : List Operand) : XOp := ⟨true, none, some d, .call { callee := .value (.func f), args := args.toArray, argTypes := #[] }⟩
def cl_ (f : Nat) (args : List Operand) : XOp := ⟨true, none, none, .call { callee := .value (.func f), args := args.toArray, argTypes := #[] }⟩
def ct (d : Nat) (x : Operand) (args : List Operand) : XOp := ⟨true, none, some d, .call { callee := .value x, args := args.toArray, argTypes := #[] }⟩
def wrc (cs : List Value) (i : Nat) : List Value → List Value
  | [v] => cs.set i v
  | vs => spl cs i vs
theorem wrc_spl {cs vs : List Value} {i : Nat} (h : i + vs.length ≤ cs.length) : wrc cs i vs = spl cs i vs := by
  unfold wrc
  split
  · exact (spl_one _ (by have := h; simp at this; omega)).symm
  · rfl
def fin (x : Option (Value × SHeap)) (K : Value → SHeap → Prop) : Prop := match x with
  | some p => K p.1 p.2
  | none => False
theorem fin_if (c : Prop) [Decidable c] (v : Value) (H : SHeap) (K : Value → SHeap → Prop) : fin (if c then some (v, H) else none) K = (c ∧ K v H) := by
  by_cases h : c
  · rw [if_pos h]; simp [fin, h]
  · rw [if_neg h]; simp [fin, h]
theorem fin_map (x : Option Value) (H : SHeap) (K : Value → SHeap → Prop) : fin (x.map fun v => (v, H)) K = match x with | some v => K v H | none => False := by cases x <;> rfl
def isVal : Op → Bool
  | .call { callee := .value _, .. } => true
  | _ => false
section
variable {P : Program} {r : List XOp} {F : Fr} {H : SHeap} {Q : Fr → SHeap → Prop}
theorem xs_fin {b : Bool} {K : Value → SHeap → Prop} (op : Op) (h : (isVal op || mxOp op || isStore op) = false) : XS P b F H K op = fin (sop P (fev F) H op) K := by
  have main : (match sop P (fev F) H op with
      | some (v, H1) => (isStore op = true → b = true) ∧ K v H1
      | none => mxOp op = true ∧ ∃ v H1, MQ P (fev F) H op v H1 ∧ (b = true ∨ Ext H H1) ∧ K v H1) = fin (sop P (fev F) H op) K := by
    simp only [Bool.or_eq_false_iff] at h
    cases sop P (fev F) H op with
    | none => simp [fin, h]
    | some p => simp [fin, h]
  cases op <;> try exact main
  rename_i c
  obtain ⟨callee, args, ats⟩ := c
  cases callee <;> try exact main
  simp [isVal] at h
theorem xw_fin {b : Bool} {d : Option Nat} (op : Op) (h : (isVal op || mxOp op || isStore op) = false) : XW P (⟨b, none, d, op⟩ :: r) F H Q = fin (sop P (fev F) H op) (fun v H1 => XW P r (fput F d v) H1 Q) := by
  simp only [XW]
  exact xs_fin op h
theorem xw_mv (d : Nat) (x : Operand) : XW P (mv d x :: r) F H Q = XW P r (upd F d (fev F x)) H Q := by
  rw [mv, xw_fin _ rfl]; rfl
theorem xw_sa (d : Nat) (x : Operand) : XW P (sa d x :: r) F H Q = XW P r (upd F d (fev F x)) H Q := by
  rw [sa, xw_fin _ rfl]; rfl
theorem xw_pk (d : Nat) (c a b : Operand) : XW P (pk d c a b :: r) F H Q = match fev F c with
    | .bool t => XW P r (upd F d (if t = true then fev F a else fev F b)) H Q
    | _ => False := by
  rw [pk, xw_fin _ rfl]; simp only [sop]; cases fev F c <;> rfl
theorem xw_al (d e : Nat) : XW P (al d e :: r) F H Q = match zero? P e with
    | some z => (flat z = true ∧ (sz? P e).isSome = true) ∧ XW P r (upd F d (.pointer (some ⟨H.length, 0, none⟩))) (H ++ [.own e false z.cells.toList]) Q
    | none => False := by
  rw [al, xw_fin _ rfl]; simp only [sop]
  cases zero? P e with
  | none => rfl
  | some z => simp only [fin_if]; rfl
theorem xw_bx (d e : Nat) (x : Operand) : XW P (bx d e x :: r) F H Q = ((sz? P e).isSome = true ∧ XW P r (upd F d (.pointer (some ⟨H.length, 0, none⟩))) (H ++ [.own e false (fev F x).cells.toList]) Q) := by
  rw [bx, xw_fin _ rfl]; simp only [sop, fin_if]; rfl
theorem xw_ld (d t : Nat) (x : Operand) : XW P (ld d t x :: r) F H Q = match fev F x with
    | .pointer (some ⟨b, i, none⟩) => (match (H[b]?).bind SObj.cells? with
      | some cs => (match aggB P t with
        | some false => (match cs[i]? with
          | some v => XW P r (upd F d v) H Q
          | none => False)
        | some true => (match sz? P t with
          | some n => i + n ≤ cs.length ∧ XW P r (upd F d (.agg ((cs.drop i).take n).toArray)) H Q
          | none => False)
        | none => False)
      | none => False)
    | _ => False := by
  rw [ld, xw_fin _ rfl]; simp only [sop, cellsAt]
  cases fev F x <;> try rfl
  rename_i a
  cases a with
  | none => rfl
  | some a =>
    obtain ⟨b, i, c⟩ := a
    cases c <;> try rfl
    simp only
    cases (H[b]?).bind SObj.cells? with
    | none => rfl
    | some cs =>
      simp only
      cases aggB P t with
      | none => rfl
      | some g =>
        cases g with
        | false => simp only [fin_map]; rfl
        | true =>
          simp only
          cases sz? P t with
          | none => rfl
          | some n => simp only [fin_if]; rfl
theorem xw_st (b : Bool) (t : Nat) (x y : Operand) : XW P (⟨b, none, none, .store t x y⟩ :: r) F H Q = match fev F x with
    | .pointer (some ⟨bl, i, none⟩) => (match H[bl]? with
      | some (.own e l cs) => (sz? P t = some (fev F y).cells.size ∧ i + (fev F y).cells.size ≤ cs.length ∧ ((fev F y).cells.toList.all (·.oneCell')) = true) ∧ b = true ∧ XW P r F (H.set bl (.own e l (wrc cs i (fev F y).cells.toList))) Q
      | _ => False)
    | _ => False := by
  simp only [XW, XS, sop]
  have no : ∀ K : Value → SHeap → Prop, (match (none : Option (Value × SHeap)) with
      | some (v, H1) => (isStore (.store t x y) = true → b = true) ∧ K v H1
      | none => mxOp (.store t x y) = true ∧ ∃ v H1, MQ P (fev F) H (.store t x y) v H1 ∧ (b = true ∨ Ext H H1) ∧ K v H1) = False := fun K => by simp [mxOp]
  cases fev F x <;> try exact no _
  rename_i a
  cases a with
  | none => exact no _
  | some a =>
    obtain ⟨bl, i, c⟩ := a
    cases c <;> try exact no _
    simp only
    cases H[bl]? with
    | none => exact no _
    | some X =>
      cases X <;> try exact no _
      rename_i e l cs
      simp only
      by_cases hc : sz? P t = some (fev F y).cells.size ∧ i + (fev F y).cells.size ≤ cs.length ∧ ((fev F y).cells.toList.all (·.oneCell')) = true
      · rw [if_pos hc, wrc_spl (by simpa using hc.2.1)]
        simp only [isStore, true_implies, fput]
        exact propext ⟨fun h => ⟨hc, h.1, h.2⟩, fun h => h.2⟩
      · rw [if_neg hc]
        exact propext ⟨fun h => by simp [mxOp] at h, fun h => (hc h.1).elim⟩
theorem xw_st1 (t : Nat) (x y : Operand) : XW P (st t x y :: r) F H Q = match fev F x with
    | .pointer (some ⟨bl, i, none⟩) => (match H[bl]? with
      | some (.own e l cs) => (sz? P t = some (fev F y).cells.size ∧ i + (fev F y).cells.size ≤ cs.length ∧ ((fev F y).cells.toList.all (·.oneCell')) = true) ∧ XW P r F (H.set bl (.own e l (wrc cs i (fev F y).cells.toList))) Q
      | _ => False)
    | _ => False := by
  rw [st, xw_st]
  simp only [true_and]
theorem xw_nc (d : Nat) (x : Operand) : XW P (nc d x :: r) F H Q = match fev F x with
    | .pointer (some a) => XW P r (upd F d (.pointer (some a))) H Q
    | _ => False := by
  rw [nc, xw_fin _ rfl]; simp only [sop]
  cases fev F x <;> try rfl
  rename_i a; cases a <;> rfl
theorem xw_bi (d : Nat) (op : BinOp) (t : Nat) (x y : Operand) : XW P (bi d op t x y :: r) F H Q = match sbin P op t (fev F x) (fev F y) with
    | some v => XW P r (upd F d v) H Q
    | none => False := by
  rw [bi, xw_fin _ rfl]; simp only [sop, fin_map]; rfl
theorem xw_un (d : Nat) (op : UnOp) (x : Operand) : XW P (un d op x :: r) F H Q = match sun op (fev F x) with
    | some v => XW P r (upd F d v) H Q
    | none => False := by
  rw [un, xw_fin _ rfl]; simp only [sop, fin_map]; rfl
theorem xw_fa (d s : Nat) (x : Operand) (f : Nat) : XW P (fa d s x f :: r) F H Q = match fev F x with
    | .pointer (some ⟨b, i, none⟩) => (match fieldOff P s f with
      | some off => XW P r (upd F d (.pointer (some ⟨b, i + off, none⟩))) H Q
      | none => False)
    | _ => False := by
  rw [fa, xw_fin _ rfl]; simp only [sop]
  cases fev F x <;> try rfl
  rename_i a
  cases a with
  | none => rfl
  | some a =>
    obtain ⟨b, i, c⟩ := a
    cases c <;> try rfl
    simp only
    cases fieldOff P s f <;> rfl
theorem xw_fi (d s : Nat) (x : Operand) (f : Nat) : XW P (fi d s x f :: r) F H Q = match fev F x with
    | .agg cs => (match fieldCut P s f with
      | some c => (match cutCells cs c with
        | some v => XW P r (upd F d v) H Q
        | none => False)
      | none => False)
    | _ => False := by
  rw [fi, xw_fin _ rfl]; simp only [sop]
  cases fev F x <;> try rfl
  simp only
  cases fieldCut P s f with
  | none => rfl
  | some c => simp only [fin_map]; rfl
theorem xw_ia (d t : Nat) (x i : Operand) : XW P (ia d t x i :: r) F H Q = match fev F x, fev F i with
    | .slice (some ⟨b, o, none⟩) len _, .int _ n => (match sliceE P t with
      | some e => (match sz? P e with
        | some sz => (0 ≤ n ∧ n < len) ∧ XW P r (upd F d (.pointer (some ⟨b, o + n.toNat * sz, none⟩))) H Q
        | none => False)
      | none => False)
    | _, _ => False := by
  rw [ia, xw_fin _ rfl]; simp only [sop]
  cases fev F x <;> try rfl
  rename_i a len cap
  cases a with
  | none => rfl
  | some a =>
    obtain ⟨b, o, c⟩ := a
    cases c <;> try rfl
    cases fev F i <;> try rfl
    simp only
    cases sliceE P t with
    | none => rfl
    | some e =>
      simp only
      cases sz? P e with
      | none => rfl
      | some n => simp only [fin_if]; rfl
theorem xw_ix (d t : Nat) (x i : Operand) : XW P (ix d t x i :: r) F H Q = match fev F x, fev F i with
    | .string s, .int _ n => (strT P t = true ∧ 0 ≤ n ∧ n < s.size) ∧ XW P r (upd F d (.int .u8 ((s.data.getD n.toNat 0).toNat : Int))) H Q
    | _, _ => False := by
  rw [ix, xw_fin _ rfl]; simp only [sop]
  cases fev F x <;> try rfl
  cases fev F i <;> try rfl
  simp only [fin_if]; rfl
theorem xw_ex (d : Nat) (x : Operand) (i : Nat) : XW P (ex d x i :: r) F H Q = match fev F x with
    | .tuple vs => (match vs[i]? with
      | some v => XW P r (upd F d v) H Q
      | none => False)
    | _ => False := by
  rw [ex, xw_fin _ rfl]; simp only [sop]
  cases fev F x <;> try rfl
  simp only [fin_map]; rfl
theorem xw_mi (d t : Nat) (x : Operand) : XW P (mi d t x :: r) F H Q = (P.concrete t = true ∧ XW P r (upd F d (.iface t (fev F x))) H Q) := by
  rw [mi, xw_fin _ rfl]; simp only [sop, fin_if]; rfl
theorem xw_mf (d : Nat) (fn : Fn) (a b : Array Operand) : XW P (mf d fn a b :: r) F H Q = XW P r (upd F d (.func fn (a.map (fev F)) (b.map (fev F)))) H Q := by
  rw [mf, xw_fin _ rfl]; rfl
def sbuild (P : Program) (F : Fr) (t : Nat) (ps : List (Nat × Operand)) : Option Value := match zero? P t with
  | some z => if flat z = true then pureRun P (Instr.build t (ps.toArray.map fun p => (p.1, fev F p.2))) else none
  | none => none
theorem xw_bd (d t : Nat) (ps : List (Nat × Operand)) : XW P (bd d t ps :: r) F H Q = match sbuild P F t ps with
    | some v => XW P r (upd F d v) H Q
    | none => False := by
  rw [bd, xw_fin _ rfl]; simp only [sop, sbuild]
  cases zero? P t with
  | none => rfl
  | some z =>
    simp only
    split
    · simp only [fin_map]; rfl
    · rfl
theorem xw_ln (d t : Nat) (x : Operand) : XW P (ln d t x :: r) F H Q = match fev F x with
    | .slice _ n _ => (match sliceE P t with
      | some _ => XW P r (upd F d (.int .i64 n)) H Q
      | none => False)
    | .string s => strT P t = true ∧ XW P r (upd F d (.int .i64 s.size)) H Q
    | _ => False := by
  rw [ln, xw_fin _ rfl]; simp only [sop, sbuiltin]
  cases fev F x <;> try rfl
  · simp only [fin_if]; rfl
  · simp only; cases sliceE P t <;> rfl
theorem xw_mxi (d : Nat) (ts : List Nat) (x y : Operand) : XW P (mxi d ts x y :: r) F H Q = match fev F x, fev F y with
    | .int k a, .int _ b => XW P r (upd F d (.int k (if b > a then b else a))) H Q
    | _, _ => False := by
  rw [mxi, xw_fin _ rfl]; simp only [sop, sbuiltin]
  cases fev F x <;> try rfl
  cases fev F y <;> rfl
theorem xw_mni (d : Nat) (ts : List Nat) (x y : Operand) : XW P (mni d ts x y :: r) F H Q = match fev F x, fev F y with
    | .int k a, .int _ b => XW P r (upd F d (.int k (if b < a then b else a))) H Q
    | _, _ => False := by
  rw [mni, xw_fin _ rfl]; simp only [sop, sbuiltin]
  cases fev F x <;> try rfl
  cases fev F y <;> rfl
theorem xw_call (b : Bool) (d : Option Nat) (f : Nat) (args : Array Operand) : XW P (⟨b, none, d, .call { callee := .value (.func f), args := args, argTypes := #[] }⟩ :: r) F H Q = SW P f (args.toList.map (fev F)) H (fun v H1 => (b = true ∨ Ext H H1) ∧ XW P r (fput F d v) H1 Q) := by
  simp only [XW, XS, fev]
  simp
theorem xw_cl (d f : Nat) (args : List Operand) : XW P (cl d f args :: r) F H Q = SW P f (args.map (fev F)) H (fun v H1 => XW P r (upd F d v) H1 Q) := by
  rw [cl, xw_call]; simp [fput]
theorem xw_cl_ (f : Nat) (args : List Operand) : XW P (cl_ f args :: r) F H Q = SW P f (args.map (fev F)) H (fun v H1 => XW P r F H1 Q) := by
  rw [cl_, xw_call]; simp [fput]
theorem xw_ncl (d f : Nat) (args : List Operand) : XW P (nb (cl d f args) :: r) F H Q = SW P f (args.map (fev F)) H (fun v H1 => Ext H H1 ∧ XW P r (upd F d v) H1 Q) := by
  simp only [nb, cl]; rw [xw_call]; simp [fput]
theorem xw_ct (d : Nat) (x : Operand) (args : List Operand) : XW P (ct d x args :: r) F H Q = match fev F x with
    | .func (.func g) first cap => SW P g (first.toList ++ args.map (fev F) ++ cap.toList) H (fun v H1 => XW P r (upd F d v) H1 Q)
    | _ => False := by
  simp only [XW, ct, XS]
  cases fev F x <;> try rfl
  rename_i fn a b
  cases fn <;> simp [fput]
theorem xw_cv (d s t : Nat) (x : Operand) {k0 : IntKind} {n : Int} (h : fev F x = .int k0 n) {ks k : IntKind} (hs : intT P s = some ks) (ht : intT P t = some k) : XW P (cv d s t x :: r) F H Q = XW P r (upd F d (.int k (k.wrap n))) H Q := by
  simp [XW, cv, XS, sop, isStore, fput, h, hs, ht]
theorem xw_mx {b : Bool} {d : Option Nat} {op : Op} (hv : isVal op = false) (hm : mxOp op = true) (hn : sop P (fev F) H op = none) {v : Value} {H1 : SHeap} (hq : MQ P (fev F) H op v H1) (hb : b = true ∨ Ext H H1) (h : XW P r (fput F d v) H1 Q) : XW P (⟨b, none, d, op⟩ :: r) F H Q := by
  simp only [XW]
  have main : (match sop P (fev F) H op with
      | some (v, H1) => (isStore op = true → b = true) ∧ XW P r (fput F d v) H1 Q
      | none => mxOp op = true ∧ ∃ v H1, MQ P (fev F) H op v H1 ∧ (b = true ∨ Ext H H1) ∧ XW P r (fput F d v) H1 Q) := by
    rw [hn]
    exact ⟨hm, v, H1, hq, hb, h⟩
  cases op <;> try exact main
  rename_i c
  obtain ⟨callee, args, ats⟩ := c
  cases callee <;> try exact main
  simp [isVal] at hv
end
def setAll : List Value → Nat → List Value → List Value
  | cs, _, [] => cs
  | cs, i, v :: vs => setAll (cs.set i v) (i + 1) vs
theorem foldl_setAll (off : Nat) : ∀ (vs : List Value) (k : Nat) (cs : Array Value), ((vs.zipIdx k).foldl (fun cs (cj : Value × Nat) => cs.setIfInBounds (off + cj.2) cj.1) cs).toList = setAll cs.toList (off + k) vs
  | [], k, cs => rfl
  | v :: vs, k, cs => by
    simp only [List.zipIdx_cons, List.foldl_cons, setAll]
    rw [foldl_setAll off vs (k + 1) _]
    simp [Nat.add_assoc]
def fillP (place : Nat → Option (Nat × Nat)) (cs : List Value) : List (Nat × Value) → Option (List Value)
  | [] => some cs
  | (i, v) :: rest => match place i with
    | none => none
    | some (off, size) => if v.cells.toList.length = size ∧ off + size ≤ cs.length then fillP place (setAll cs off v.cells.toList) rest else none
def fillL (pl : List (Nat × Nat)) (cs : List Value) (parts : List (Nat × Value)) : Option (List Value) := fillP (fun i => pl[i]?) cs parts
theorem fill_eq (place : Nat → Option (Nat × Nat)) : ∀ (parts : List (Nat × Value)) (cs : Array Value), Instr.fill place cs parts = (fillP place cs.toList parts).map (·.toArray)
  | [], cs => by simp [Instr.fill, fillP]
  | (i, v) :: rest, cs => by
    simp only [fillP, Instr.fill]
    cases place i with
    | none => rfl
    | some os =>
      obtain ⟨off, size⟩ := os
      simp only
      have e : (v.cells.zipIdx.foldl (fun cs (x : Value × Nat) => cs.setIfInBounds (off + x.2) x.1) cs).toList = setAll cs.toList off v.cells.toList := by
        have := foldl_setAll off v.cells.toList 0 cs
        rw [← Array.foldl_toList, Array.toList_zipIdx]
        simpa using this
      by_cases hc : v.cells.toList.length = size ∧ off + size ≤ cs.toList.length
      · rw [if_pos hc]
        have h1 : v.cells.size = size := by simpa using hc.1
        have h2 : off + size ≤ cs.size := by simpa using hc.2
        rw [if_neg (by simp [h1]; omega), fill_eq place rest, ← e]
      · rw [if_neg hc]
        have : (decide (v.cells.size ≠ size) || decide (off + v.cells.size > cs.size)) = true := by
          by_cases h1 : v.cells.size = size
          · have h2 : ¬ (off + size ≤ cs.size) := fun h => hc ⟨by simpa using h1, by simpa using h⟩
            simp [h1]; omega
          · simp [h1]
        rw [if_pos this]
        rfl
def places (P : Program) (t : TypeId) : Option (List (Nat × Nat)) := match P.underlying t with
  | some (.struct fs) => fs.toList.mapM fun f => (sz? P f.type).map fun n => (f.offset, n)
  | _ => none
theorem pureRun_mapM_list {P : Program} {α β : Type} (f : α → Sem β) (g : α → Option β) (h : ∀ a, pureRun P (f a) = g a) : ∀ l : List α, pureRun P (l.mapM f) = l.mapM g
  | [] => by simp [pureRun_pure]
  | a :: l => by
    simp only [List.mapM_cons, pureRun_bind, pureRun_pure, h, pureRun_mapM_list f g h l]
    rfl
theorem sbuild_eq' {P : Program} {F : Fr} {t : Nat} {ps : List (Nat × Operand)} {z : Value} {pl : List (Nat × Nat)} (hz : zero? P t = some z) (hzf : flat z = true) (hp : places P t = some pl) :
    sbuild P F t ps = (fillL pl z.cells.toList (ps.map fun p => (p.1, fev F p.2))).map fun out => .agg out.toArray := by
  unfold places at hp
  split at hp
  · rename_i fs hu
    simp only [sbuild, hz, hzf, if_true, Instr.build, pureRun_bind, pureRun_zeroValue, Option.bind_some, pureRun_underlying, hu]
    have hm : pureRun P (fs.mapM fun f => do pure (f.offset, ← sizeOf f.type)) = some pl.toArray := by
      rw [Array.mapM_eq_mapM_toList, pureRun_map, pureRun_mapM_list _ (fun f => (sz? P f.type).map fun n => (f.offset, n)) (fun f => by
        simp only [pureRun_bind, pureRun_pure, pureRun_sizeOf]
        cases sz? P f.type <;> rfl), hp]
      rfl
    rw [hm]
    simp only [Option.bind_some]
    have := fill_eq (fun x => pl.toArray[x]?) (ps.map fun p => (p.1, fev F p.2)) z.cells
    rw [show (fun x => pl.toArray[x]?) = fun x => pl[x]? from funext fun x => by simp] at this
    have hl : (ps.toArray.map fun p => (p.1, fev F p.2)).toList = ps.map fun p => (p.1, fev F p.2) := by simp
    rw [hl, show (fun x => pl.toArray[x]?) = fun x => pl[x]? from funext fun x => by simp, this]
    unfold fillL
    cases fillP (fun i => pl[i]?) z.cells.toList (ps.map fun p => (p.1, fev F p.2)) <;> rfl
  · cases hp
@[simp] theorem fillL_nil (pl : List (Nat × Nat)) (cs : List Value) : fillL pl cs [] = some cs := rfl
@[simp] theorem fillL_cons (pl : List (Nat × Nat)) (cs : List Value) (i : Nat) (v : Value) (rest : List (Nat × Value)) : fillL pl cs ((i, v) :: rest) = match pl[i]? with
    | none => none
    | some (off, size) => if v.cells.toList.length = size ∧ off + size ≤ cs.length then fillL pl (setAll cs off v.cells.toList) rest else none := rfl
attribute [simp] setAll
def Get {α : Type} (o : Option α) (K : α → Prop) : Prop := match o with
  | some v => K v
  | none => False
def Chk (c : Prop) (K : Prop) : Prop := c ∧ K
def Br (b : Bool) (K1 K2 : Prop) : Prop := match b with
  | true => K1
  | false => K2
def OnN (v : Value) (K : Addr → Prop) : Prop := match v with
  | .pointer (some a) => K a
  | _ => False
def OnB (v : Value) (K : Bool → Prop) : Prop := match v with
  | .bool b => K b
  | _ => False
def OnI (v : Value) (K : IntKind → Int → Prop) : Prop := match v with
  | .int k n => K k n
  | _ => False
def OnP (v : Value) (K : Nat → Nat → Prop) : Prop := match v with
  | .pointer (some ⟨b, i, none⟩) => K b i
  | _ => False
def OnSl (v : Value) (K : Option Addr → Nat → Nat → Prop) : Prop := match v with
  | .slice a n c => K a n c
  | _ => False
def OnA (a : Option Addr) (K : Nat → Nat → Prop) : Prop := match a with
  | some ⟨b, i, none⟩ => K b i
  | _ => False
def OnT (v : Value) (K : ByteArray → Prop) : Prop := match v with
  | .string s => K s
  | _ => False
def OnG (v : Value) (K : Array Value → Prop) : Prop := match v with
  | .agg cs => K cs
  | _ => False
def OnTu (v : Value) (K : Array Value → Prop) : Prop := match v with
  | .tuple cs => K cs
  | _ => False
def OnF (v : Value) (K : Nat → Array Value → Array Value → Prop) : Prop := match v with
  | .func (.func g) a b => K g a b
  | _ => False
def OnOwn (x : Option SObj) (K : TypeId → Bool → List Value → Prop) : Prop := match x with
  | some (.own e l cs) => K e l cs
  | _ => False
section
theorem Chk_true (K : Prop) : Chk True K = K := by simp [Chk]
theorem Br.mk {b : Bool} {K1 K2 : Prop} (h1 : b = true → K1) (h2 : b = false → K2) : Br b K1 K2 := by
  cases b
  · exact h2 rfl
  · exact h1 rfl
theorem Br.mkD {p : Prop} [Decidable p] {K1 K2 : Prop} (h1 : p → K1) (h2 : ¬ p → K2) : Br (decide p) K1 K2 := by
  by_cases h : p
  · rw [decide_eq_true h]; exact h1 h
  · rw [decide_eq_false h]; exact h2 h
@[simp] theorem upd_ap (F : Fr) (d : Nat) (v : Value) (i : Nat) : upd F d v i = if i = d then v else F i := rfl
attribute [simp] fev_T fev_I fev_C fev_Fu
@[simp] theorem boolOf_bool (b : Bool) : boolOf (.bool b) = some b := rfl
@[simp] theorem argF_0 (a : Value) (l : List Value) : argF (a :: l) 0 = a := rfl
@[simp] theorem argF_1 (a b : Value) (l : List Value) : argF (a :: b :: l) 1 = b := rfl
@[simp] theorem argF_2 (a b c : Value) (l : List Value) : argF (a :: b :: c :: l) 2 = c := rfl
@[simp] theorem argF_3 (a b c d : Value) (l : List Value) : argF (a :: b :: c :: d :: l) 3 = d := rfl
@[simp] theorem argF_4 (a b c d e : Value) (l : List Value) : argF (a :: b :: c :: d :: e :: l) 4 = e := rfl
@[simp] theorem argF_5 (a b c d e f : Value) (l : List Value) : argF (a :: b :: c :: d :: e :: f :: l) 5 = f := rfl
@[simp] theorem argF_6 (a b c d e f g : Value) (l : List Value) : argF (a :: b :: c :: d :: e :: f :: g :: l) 6 = g := rfl
theorem w64 {n : Int} (h1 : -9223372036854775808 ≤ n) (h2 : n < 9223372036854775808) : IntKind.wrap .i64 n = n := by
  simp only [IntKind.wrap, IntKind.bits, IntKind.signed]
  simp
  split <;> omega
theorem wu64 {n : Int} (h1 : 0 ≤ n) (h2 : n < 18446744073709551616) : IntKind.wrap .u64 n = n := by
  simp only [IntKind.wrap, IntKind.bits, IntKind.signed]
  simp
  omega
theorem wu32 {n : Int} (h1 : 0 ≤ n) (h2 : n < 4294967296) : IntKind.wrap .u32 n = n := by
  simp only [IntKind.wrap, IntKind.bits, IntKind.signed]
  simp
  omega
theorem wu8 {n : Int} (h1 : 0 ≤ n) (h2 : n < 256) : IntKind.wrap .u8 n = n := by
  simp only [IntKind.wrap, IntKind.bits, IntKind.signed]
  simp
  omega
theorem wu32m (n : Int) : IntKind.wrap .u32 n = n % 4294967296 := by
  simp only [IntKind.wrap, IntKind.bits, IntKind.signed]
  simp
theorem wu64m (n : Int) : IntKind.wrap .u64 n = n % 18446744073709551616 := by
  simp only [IntKind.wrap, IntKind.bits, IntKind.signed]
  simp
@[simp] theorem bits_u64 : IntKind.bits .u64 = 64 := rfl
@[simp] theorem bits_u32 : IntKind.bits .u32 = 32 := rfl
@[simp] theorem bits_i64 : IntKind.bits .i64 = 64 := rfl
@[simp] theorem bits_u8 : IntKind.bits .u8 = 8 := rfl
@[simp] theorem sg_u64 : IntKind.signed .u64 = false := rfl
@[simp] theorem sg_u32 : IntKind.signed .u32 = false := rfl
@[simp] theorem sg_u8 : IntKind.signed .u8 = false := rfl
@[simp] theorem sg_i64 : IntKind.signed .i64 = true := rfl
theorem fdivp (a : Int) {b : Int} (h : 0 ≤ b) : a.fdiv b = a / b := Int.fdiv_eq_ediv_of_nonneg a h
section
variable {P : Program} {t : Nat} {k k' : IntKind} {a b : Int}
@[simp] theorem sbin_add : sbin P .add t (.int k a) (.int k b) = some (.int k (k.wrap (a + b))) := by simp [sbin, binI]
@[simp] theorem sbin_sub : sbin P .sub t (.int k a) (.int k b) = some (.int k (k.wrap (a - b))) := by simp [sbin, binI]
@[simp] theorem sbin_mul : sbin P .mul t (.int k a) (.int k b) = some (.int k (k.wrap (a * b))) := by simp [sbin, binI]
@[simp] theorem sbin_eql : sbin P .eql t (.int k a) (.int k b) = some (.bool (decide (a = b))) := by simp [sbin, binI]; rfl
@[simp] theorem sbin_neq : sbin P .neq t (.int k a) (.int k b) = some (.bool (decide (a ≠ b))) := by
  simp [sbin, binI]
  by_cases h : a = b <;> simp [h]
@[simp] theorem sbin_lss : sbin P .lss t (.int k a) (.int k b) = some (.bool (decide (a < b))) := by simp [sbin, binI]
@[simp] theorem sbin_leq : sbin P .leq t (.int k a) (.int k b) = some (.bool (decide (a ≤ b))) := by simp [sbin, binI]
@[simp] theorem sbin_gtr : sbin P .gtr t (.int k a) (.int k b) = some (.bool (decide (b < a))) := by simp [sbin, binI]
@[simp] theorem sbin_geq : sbin P .geq t (.int k a) (.int k b) = some (.bool (decide (b ≤ a))) := by simp [sbin, binI]
@[simp] theorem sbin_quo : sbin P .quo t (.int k a) (.int k b) = if b = 0 then none else some (.int k (k.wrap (a.tdiv b))) := by simp [sbin, binI]
@[simp] theorem sbin_rem : sbin P .rem t (.int k a) (.int k b) = if b = 0 then none else some (.int k (a.tmod b)) := by simp [sbin, binI]
@[simp] theorem sbin_or : sbin P .or t (.int k a) (.int k b) = some (.int k (k.wrap (BitVec.ofInt k.bits a ||| BitVec.ofInt k.bits b).toNat)) := by simp [sbin, binI]
@[simp] theorem sbin_and : sbin P .and t (.int k a) (.int k b) = some (.int k (k.wrap (BitVec.ofInt k.bits a &&& BitVec.ofInt k.bits b).toNat)) := by simp [sbin, binI]
@[simp] theorem sbin_xor : sbin P .xor t (.int k a) (.int k b) = some (.int k (k.wrap (BitVec.ofInt k.bits a ^^^ BitVec.ofInt k.bits b).toNat)) := by simp [sbin, binI]
@[simp] theorem sbin_shl : sbin P .shl t (.int k a) (.int k' b) = if b < 0 then none else some (.int k (k.wrap (a * 2 ^ (min b.toNat k.bits)))) := by simp [sbin, binS]
@[simp] theorem sbin_shr : sbin P .shr t (.int k a) (.int k' b) = if b < 0 then none else some (.int k (a.fdiv (2 ^ (min b.toNat k.bits)))) := by simp [sbin, binS]
@[simp] theorem sbin_seql {x y : ByteArray} : sbin P .eql t (.string x) (.string y) = some (.bool (x.toList == y.toList)) := by simp [sbin, binT]
@[simp] theorem sbin_sneq {x y : ByteArray} : sbin P .neq t (.string x) (.string y) = some (.bool !(x.toList == y.toList)) := by simp [sbin, binT]
@[simp] theorem sbin_sadd {x y : ByteArray} : sbin P .add t (.string x) (.string y) = if x.size + y.size ≤ 9223372036854775807 then some (.string (x ++ y)) else none := by simp [sbin, binT]
@[simp] theorem sbin_beql {x y : Bool} : sbin P .eql t (.bool x) (.bool y) = if boolT P t = true then some (.bool (x == y)) else none := by simp [sbin]
@[simp] theorem sbin_bneq {x y : Bool} : sbin P .neq t (.bool x) (.bool y) = if boolT P t = true then some (.bool (!(x == y))) else none := by simp [sbin]
@[simp] theorem sbin_nil {x : Option Addr} {n c : Nat} : sbin P .eql t (.slice x n c) (.slice none 0 0) = (sliceE P t).map fun _ => .bool x.isNone := by simp only [sbin]; cases sliceE P t <;> rfl
@[simp] theorem sun_neg {x : Int} : sun .neg (.int k x) = some (.int k (k.wrap (0 - x))) := rfl
@[simp] theorem sun_not {x : Bool} : sun .not (.bool x) = some (.bool !x) := rfl
@[simp] theorem sun_xor {x : Int} : sun .xor (.int k x) = some (.int k (k.wrap (BitVec.ofInt k.bits (if k.signed then -1 else k.max) ^^^ BitVec.ofInt k.bits x).toNat)) := rfl
end
section
variable {P : Program} {r : List XOp} {F : Fr} {H : SHeap} {Q : Fr → SHeap → Prop}
def ug (x : XOp) : XOp := { x with g := none }
def Gd (o : Option Bool) (w : Bool) (K1 K2 : Prop) : Prop := if o = some w then K1 else K2
theorem Gd_true (b : Bool) (K1 K2 : Prop) : Gd (some b) true K1 K2 = Br b K1 K2 := by cases b <;> simp [Gd, Br]
theorem Gd_false (b : Bool) (K1 K2 : Prop) : Gd (some b) false K1 K2 = Br b K2 K1 := by cases b <;> simp [Gd, Br]
theorem x_gd (j : Nat) (w : Bool) (x : XOp) : XW P (gd j w x :: r) F H Q = Gd (boolOf (F j)) w (XW P (ug x :: r) F H Q) (XW P r (fput F x.d undef) H Q) := rfl
@[simp] theorem fput_some (d : Nat) (v : Value) : fput F (some d) v = upd F d v := rfl
@[simp] theorem ug_nb (x : XOp) : ug (nb x) = nb (ug x) := rfl
@[simp] theorem d_nb (x : XOp) : (nb x).d = x.d := rfl
@[simp] theorem ug_mv (d : Nat) (x : Operand) : ug (mv d x) = mv d x := rfl
@[simp] theorem d_mv (d : Nat) (x : Operand) : (mv d x).d = some d := rfl
@[simp] theorem ug_sa (d : Nat) (x : Operand) : ug (sa d x) = sa d x := rfl
@[simp] theorem d_sa (d : Nat) (x : Operand) : (sa d x).d = some d := rfl
@[simp] theorem ug_pk (d : Nat) (c a b : Operand) : ug (pk d c a b) = pk d c a b := rfl
@[simp] theorem d_pk (d : Nat) (c a b : Operand) : (pk d c a b).d = some d := rfl
@[simp] theorem ug_al (d e : Nat) : ug (al d e) = al d e := rfl
@[simp] theorem d_al (d e : Nat) : (al d e).d = some d := rfl
@[simp] theorem ug_bx (d e : Nat) (x : Operand) : ug (bx d e x) = bx d e x := rfl
@[simp] theorem d_bx (d e : Nat) (x : Operand) : (bx d e x).d = some d := rfl
@[simp] theorem ug_ld (d t : Nat) (x : Operand) : ug (ld d t x) = ld d t x := rfl
@[simp] theorem d_ld (d t : Nat) (x : Operand) : (ld d t x).d = some d := rfl
@[simp] theorem ug_nc (d : Nat) (x : Operand) : ug (nc d x) = nc d x := rfl
@[simp] theorem d_nc (d : Nat) (x : Operand) : (nc d x).d = some d := rfl
@[simp] theorem ug_bi (d : Nat) (op : BinOp) (t : Nat) (x y : Operand) : ug (bi d op t x y) = bi d op t x y := rfl
@[simp] theorem d_bi (d : Nat) (op : BinOp) (t : Nat) (x y : Operand) : (bi d op t x y).d = some d := rfl
@[simp] theorem ug_un (d : Nat) (op : UnOp) (x : Operand) : ug (un d op x) = un d op x := rfl
@[simp] theorem d_un (d : Nat) (op : UnOp) (x : Operand) : (un d op x).d = some d := rfl
@[simp] theorem ug_cv (d s t : Nat) (x : Operand) : ug (cv d s t x) = cv d s t x := rfl
@[simp] theorem d_cv (d s t : Nat) (x : Operand) : (cv d s t x).d = some d := rfl
@[simp] theorem ug_fa (d s : Nat) (x : Operand) (f : Nat) : ug (fa d s x f) = fa d s x f := rfl
@[simp] theorem d_fa (d s : Nat) (x : Operand) (f : Nat) : (fa d s x f).d = some d := rfl
@[simp] theorem ug_fi (d s : Nat) (x : Operand) (f : Nat) : ug (fi d s x f) = fi d s x f := rfl
@[simp] theorem d_fi (d s : Nat) (x : Operand) (f : Nat) : (fi d s x f).d = some d := rfl
@[simp] theorem ug_ia (d t : Nat) (x i : Operand) : ug (ia d t x i) = ia d t x i := rfl
@[simp] theorem d_ia (d t : Nat) (x i : Operand) : (ia d t x i).d = some d := rfl
@[simp] theorem ug_ix (d t : Nat) (x i : Operand) : ug (ix d t x i) = ix d t x i := rfl
@[simp] theorem d_ix (d t : Nat) (x i : Operand) : (ix d t x i).d = some d := rfl
@[simp] theorem ug_ex (d : Nat) (x : Operand) (i : Nat) : ug (ex d x i) = ex d x i := rfl
@[simp] theorem d_ex (d : Nat) (x : Operand) (i : Nat) : (ex d x i).d = some d := rfl
@[simp] theorem ug_sl (d t : Nat) (x : Operand) (lo hi mx : Option Operand) : ug (sl d t x lo hi mx) = sl d t x lo hi mx := rfl
@[simp] theorem d_sl (d t : Nat) (x : Operand) (lo hi mx : Option Operand) : (sl d t x lo hi mx).d = some d := rfl
@[simp] theorem ug_ln (d t : Nat) (x : Operand) : ug (ln d t x) = ln d t x := rfl
@[simp] theorem d_ln (d t : Nat) (x : Operand) : (ln d t x).d = some d := rfl
@[simp] theorem ug_cl (d f : Nat) (args : List Operand) : ug (cl d f args) = cl d f args := rfl
@[simp] theorem d_cl (d f : Nat) (args : List Operand) : (cl d f args).d = some d := rfl
@[simp] theorem ug_ct (d : Nat) (x : Operand) (args : List Operand) : ug (ct d x args) = ct d x args := rfl
@[simp] theorem d_ct (d : Nat) (x : Operand) (args : List Operand) : (ct d x args).d = some d := rfl
@[simp] theorem ug_mi (d t : Nat) (x : Operand) : ug (mi d t x) = mi d t x := rfl
@[simp] theorem d_mi (d t : Nat) (x : Operand) : (mi d t x).d = some d := rfl
theorem x_pk (d : Nat) (c a b : Operand) : XW P (pk d c a b :: r) F H Q = OnB (fev F c) fun t => XW P r (upd F d (if t = true then fev F a else fev F b)) H Q := by
  rw [xw_pk]; cases fev F c <;> rfl
theorem x_al (d e : Nat) : XW P (al d e :: r) F H Q = Get (zero? P e) fun z => Chk (flat z = true ∧ (sz? P e).isSome = true) (XW P r (upd F d (.pointer (some ⟨H.length, 0, none⟩))) (H ++ [.own e false z.cells.toList]) Q) := by
  rw [xw_al]; cases zero? P e <;> rfl
theorem x_bx (d e : Nat) (x : Operand) : XW P (bx d e x :: r) F H Q = Chk ((sz? P e).isSome = true) (XW P r (upd F d (.pointer (some ⟨H.length, 0, none⟩))) (H ++ [.own e false (fev F x).cells.toList]) Q) := by
  rw [xw_bx]; rfl
def lenOf (P : Program) (t : Nat) : Value → Option Nat
  | .slice _ n _ => (sliceE P t).map fun _ => n
  | .string s => if strT P t = true then some s.size else none
  | _ => none
theorem x_ld (d t : Nat) (x : Operand) : XW P (ld d t x :: r) F H Q = OnP (fev F x) fun b i => Get ((H[b]?).bind SObj.cells?) fun cs => Get (aggB P t) fun g => Br g (Get (sz? P t) fun n => Chk (i + n ≤ cs.length) (XW P r (upd F d (.agg ((cs.drop i).take n).toArray)) H Q)) (Get cs[i]? fun v => XW P r (upd F d v) H Q) := by
  rw [xw_ld]
  cases fev F x <;> try rfl
  rename_i a
  cases a with
  | none => rfl
  | some a =>
    obtain ⟨b, i, c⟩ := a
    cases c <;> try rfl
    simp only [OnP]
    cases (H[b]?).bind SObj.cells? with
    | none => rfl
    | some cs =>
      simp only [Get]
      cases aggB P t with
      | none => rfl
      | some g =>
        cases g with
        | false => simp only [Br]; cases cs[i]? <;> rfl
        | true => simp only [Br]; cases sz? P t <;> rfl
theorem x_st (t : Nat) (x y : Operand) : XW P (st t x y :: r) F H Q = OnP (fev F x) fun b i => OnOwn H[b]? fun e l cs => Chk (sz? P t = some (fev F y).cells.size ∧ i + (fev F y).cells.size ≤ cs.length ∧ ((fev F y).cells.toList.all (·.oneCell')) = true) (XW P r F (H.set b (.own e l (wrc cs i (fev F y).cells.toList))) Q) := by
  rw [xw_st1]
  cases fev F x <;> try rfl
theorem x_nc (d : Nat) (x : Operand) : XW P (nc d x :: r) F H Q = OnN (fev F x) fun a => XW P r (upd F d (.pointer (some a))) H Q := by
  rw [xw_nc]
  cases fev F x <;> try rfl
theorem x_bi (d : Nat) (op : BinOp) (t : Nat) (x y : Operand) : XW P (bi d op t x y :: r) F H Q = Get (sbin P op t (fev F x) (fev F y)) fun v => XW P r (upd F d v) H Q := by
  rw [xw_bi]; cases sbin P op t (fev F x) (fev F y) <;> rfl
theorem x_un (d : Nat) (op : UnOp) (x : Operand) : XW P (un d op x :: r) F H Q = Get (sun op (fev F x)) fun v => XW P r (upd F d v) H Q := by
  rw [xw_un]; cases sun op (fev F x) <;> rfl
theorem x_fa (d s : Nat) (x : Operand) (f : Nat) : XW P (fa d s x f :: r) F H Q = OnP (fev F x) fun b i => Get (fieldOff P s f) fun off => XW P r (upd F d (.pointer (some ⟨b, i + off, none⟩))) H Q := by
  rw [xw_fa]
  cases fev F x <;> try rfl
  rename_i a
  cases a with
  | none => rfl
  | some a =>
    obtain ⟨b, i, c⟩ := a
    cases c <;> try rfl
    cases fieldOff P s f <;> rfl
theorem x_fi (d s : Nat) (x : Operand) (f : Nat) : XW P (fi d s x f :: r) F H Q = OnG (fev F x) fun cs => Get (fieldCut P s f) fun c => Get (cutCells cs c) fun v => XW P r (upd F d v) H Q := by
  rw [xw_fi]
  cases fev F x <;> try rfl
  rename_i cs
  simp only [OnG, Get]
  cases fieldCut P s f with
  | none => rfl
  | some c => simp only; cases cutCells cs c <;> rfl
theorem get_false {α : Type} (o : Option α) {K : α → Prop} (h : ∀ v, K v = False) : Get o K = False := by cases o <;> simp [Get, h]
theorem x_ia (d t : Nat) (x i : Operand) : XW P (ia d t x i :: r) F H Q = OnSl (fev F x) fun a len _ => OnI (fev F i) fun _ n => Get (sliceE P t) fun e => Get (sz? P e) fun sz => OnA a fun b o => Chk (0 ≤ n ∧ n < len) (XW P r (upd F d (.pointer (some ⟨b, o + n.toNat * sz, none⟩))) H Q) := by
  rw [xw_ia]
  generalize fev F x = u
  generalize fev F i = w
  cases u with
  | slice a len cap =>
    rcases a with _ | ⟨b, o, _ | c⟩
    · cases w with
      | int k n => exact (get_false _ fun e => get_false _ fun z => rfl).symm
      | _ => rfl
    · cases w with
      | int k n =>
        simp only [OnSl, OnI, OnA]
        cases sliceE P t with
        | none => rfl
        | some e =>
          simp only [Get]
          cases sz? P e <;> rfl
      | _ => rfl
    · cases w with
      | int k n => exact (get_false _ fun e => get_false _ fun z => rfl).symm
      | _ => rfl
  | _ => rfl
theorem x_ix (d t : Nat) (x i : Operand) : XW P (ix d t x i :: r) F H Q = OnT (fev F x) fun s => OnI (fev F i) fun _ n => Chk (strT P t = true ∧ 0 ≤ n ∧ n < s.size) (XW P r (upd F d (.int .u8 ((s.data.getD n.toNat 0).toNat : Int))) H Q) := by
  rw [xw_ix]
  cases fev F x <;> try rfl
  cases fev F i <;> rfl
theorem x_ex (d : Nat) (x : Operand) (i : Nat) : XW P (ex d x i :: r) F H Q = OnTu (fev F x) fun vs => Get vs[i]? fun v => XW P r (upd F d v) H Q := by
  rw [xw_ex]
  cases fev F x <;> try rfl
  rename_i vs
  simp only [OnTu]
  cases vs[i]? <;> rfl
theorem x_bd {d t : Nat} {ps : List (Nat × Operand)} {z : Value} {pl : List (Nat × Nat)} (hz : zero? P t = some z) (hzf : flat z = true) (hp : places P t = some pl) :
    XW P (bd d t ps :: r) F H Q = Get (fillL pl z.cells.toList (ps.map fun p => (p.1, fev F p.2))) fun out => XW P r (upd F d (.agg out.toArray)) H Q := by
  rw [xw_bd, sbuild_eq' hz hzf hp]
  cases fillL pl z.cells.toList (ps.map fun p => (p.1, fev F p.2)) <;> rfl
def isInt : Value → Bool
  | .int _ _ => true
  | _ => false
def intOf : Value → Int
  | .int _ n => n
  | _ => 0
@[simp] theorem isInt_int (k : IntKind) (n : Int) : isInt (.int k n) = true := rfl
@[simp] theorem intOf_int (k : IntKind) (n : Int) : intOf (.int k n) = n := rfl
theorem x_cvi {d s t : Nat} {x : Operand} {ks k : IntKind} (hs : intT P s = some ks) (ht : intT P t = some k) (hx : isInt (fev F x) = true) : XW P (cv d s t x :: r) F H Q = XW P r (upd F d (.int k (k.wrap (intOf (fev F x))))) H Q := by
  cases hv : fev F x <;> rw [hv] at hx <;> first | exact xw_cv d s t x hv hs ht | cases hx
def isStr : Value → Bool
  | .string _ => true
  | _ => false
@[simp] theorem isStr_str (s : ByteArray) : isStr (.string s) = true := rfl
theorem x_ct (d : Nat) (x : Operand) (args : List Operand) : XW P (ct d x args :: r) F H Q = OnF (fev F x) fun g a b => SW P g (a.toList ++ args.map (fev F) ++ b.toList) H (fun v H1 => XW P r (upd F d v) H1 Q) := by
  rw [xw_ct]
  cases fev F x <;> try rfl
theorem x_ln (d t : Nat) (x : Operand) : XW P (ln d t x :: r) F H Q = Get (lenOf P t (fev F x)) fun (n : Nat) => XW P r (upd F d (.int .i64 n)) H Q := by
  rw [xw_ln]
  cases fev F x <;> try rfl
  · simp only [lenOf]
    split
    · rename_i h; simp [h, Get]
    · rename_i h; simp [h, Get]
  · simp only [lenOf]
    cases sliceE P t <;> rfl
@[simp] theorem lenOf_sl (t : Nat) (a : Option Addr) (n c : Nat) : lenOf P t (.slice a n c) = (sliceE P t).map fun _ => n := rfl
@[simp] theorem lenOf_str (t : Nat) (s : ByteArray) : lenOf P t (.string s) = if strT P t = true then some s.size else none := rfl
theorem x_mxi (d : Nat) (ts : List Nat) (x y : Operand) : XW P (mxi d ts x y :: r) F H Q = OnI (fev F x) fun k a => OnI (fev F y) fun _ b => XW P r (upd F d (.int k (if b > a then b else a))) H Q := by
  rw [xw_mxi]
  cases fev F x <;> try rfl
  cases fev F y <;> rfl
theorem x_mni (d : Nat) (ts : List Nat) (x y : Operand) : XW P (mni d ts x y :: r) F H Q = OnI (fev F x) fun k a => OnI (fev F y) fun _ b => XW P r (upd F d (.int k (if b < a then b else a))) H Q := by
  rw [xw_mni]
  cases fev F x <;> try rfl
  cases fev F y <;> rfl
end
section
variable {P : Program} {F : Fr} {H : SHeap} {Q : SExit → Fr → SHeap → Prop}
theorem xx_skip : XX P .skip F H Q = Q .normal F H := rfl
theorem xx_ret : XX P .ret F H Q = Q .ret F H := rfl
theorem xx_exit (id : Nat) : XX P (.exit id) F H Q = Q (.exit id) F H := rfl
theorem xx_seq (x y : XCode) : XX P (.seq x y) F H Q = XX P x F H (seqX (fun F1 H1 => XX P y F1 H1 Q) Q) := rfl
theorem xx_cond (c : Operand) (x y : XCode) : XX P (.cond c x y) F H Q = OnB (fev F c) fun b => Br b (XX P x F H Q) (XX P y F H Q) := by
  simp only [XX]
  cases fev F c <;> try rfl
  rename_i b
  cases b <;> rfl
theorem xx_block (id : Nat) (x : XCode) : XX P (.block id x) F H Q = XX P x F H (blockX id Q) := rfl
theorem xx_loop (x : XCode) : XX P (.loop x) F H Q = LoopX (XX P x) Q F H := rfl
theorem xx_ops (l : List XOp) : XX P (.ops l) F H Q = XW P l F H (fun F1 H1 => Q .normal F1 H1) := rfl
theorem seqX_n {K : Fr → SHeap → Prop} : seqX K Q .normal F H = K F H := rfl
theorem seqX_r {K : Fr → SHeap → Prop} : seqX K Q .ret F H = Q .ret F H := rfl
theorem seqX_e {K : Fr → SHeap → Prop} (id : Nat) : seqX K Q (.exit id) F H = Q (.exit id) F H := rfl
theorem blockX_n (id : Nat) : blockX id Q .normal F H = Q .normal F H := rfl
theorem blockX_r (id : Nat) : blockX id Q .ret F H = Q .ret F H := rfl
theorem blockX_e (id id' : Nat) : blockX id Q (.exit id') F H = if id' = id then Q .normal F H else Q (.exit id') F H := rfl
theorem xr_nil {K : List Value → Prop} : XR P F H [] K = K [] := rfl
theorem xr_tmp {K : List Value → Prop} (i : Nat) (rs : List ResultVar) : XR P F H (.tmp i :: rs) K = XR P F H rs fun vs => K (F i :: vs) := rfl
theorem xr_cell {K : List Value → Prop} (a ty : Nat) (rs : List ResultVar) : XR P F H (.cell a ty :: rs) K = OnP (F a) fun b i => Get ((H[b]?).bind SObj.cells?) fun cs => Get (aggB P ty) fun g => Br g (Get (sz? P ty) fun n => Chk (i + n ≤ cs.length) (XR P F H rs fun vs => K (.agg ((cs.drop i).take n).toArray :: vs))) (Get cs[i]? fun v => XR P F H rs fun vs => K (v :: vs)) := by
  simp only [XR, cellsAt]
  cases F a <;> try rfl
  rename_i a
  cases a with
  | none => rfl
  | some a =>
    obtain ⟨b, i, c⟩ := a
    cases c <;> try rfl
    simp only [OnP]
    cases (H[b]?).bind SObj.cells? with
    | none => rfl
    | some cs =>
      simp only [Get]
      cases aggB P ty with
      | none => rfl
      | some g =>
        cases g with
        | false => simp only [Br]; cases cs[i]? <;> rfl
        | true => simp only [Br]; cases sz? P ty <;> rfl
end
end
universe u v in
inductive Tok {α : Sort u} {β : Sort v} (a : α) (b : β) : Type
  | mk
def XWt (P : Program) (l : List XOp) (Q : Fr → SHeap → Prop) (tk : Tok l Q) (F : Fr) (H : SHeap) : Prop := XW P l F H Q
def XXt (P : Program) (x : XCode) (Q : SExit → Fr → SHeap → Prop) (tk : Tok x Q) (F : Fr) (H : SHeap) : Prop := XX P x F H Q
def XRt (P : Program) (rs : List ResultVar) (K : List Value → Prop) (tk : Tok rs K) (F : Fr) (H : SHeap) : Prop := XR P F H rs K
def SWt (P : Program) (f : FuncId) (Q : Value → SHeap → Prop) (tk : Tok f Q) (args : List Value) (H : SHeap) : Prop := SW P f args H Q
def LoopXt (P : Program) (x : XCode) (Q : SExit → Fr → SHeap → Prop) (tk : Tok x Q) (F : Fr) (H : SHeap) : Prop := LoopX (XX P x) Q F H
def Gett {α : Type} (K : α → Prop) (tk : Tok K K) (o : Option α) : Prop := Get o K
def Chkt (K : Prop) (tk : Tok K K) (c : Prop) : Prop := Chk c K
def Brt (K1 K2 : Prop) (tk : Tok K1 K2) (b : Bool) : Prop := Br b K1 K2
def Gdt (K1 K2 : Prop) (tk : Tok K1 K2) (o : Option Bool) (w : Bool) : Prop := Gd o w K1 K2
def OnBt (K : Bool → Prop) (tk : Tok K K) (v : Value) : Prop := OnB v K
def OnIt (K : IntKind → Int → Prop) (tk : Tok K K) (v : Value) : Prop := OnI v K
def OnPt (K : Nat → Nat → Prop) (tk : Tok K K) (v : Value) : Prop := OnP v K
def OnSlt (K : Option Addr → Nat → Nat → Prop) (tk : Tok K K) (v : Value) : Prop := OnSl v K
def OnAt (K : Nat → Nat → Prop) (tk : Tok K K) (v : Option Addr) : Prop := OnA v K
def OnTt (K : ByteArray → Prop) (tk : Tok K K) (v : Value) : Prop := OnT v K
def OnGt (K : Array Value → Prop) (tk : Tok K K) (v : Value) : Prop := OnG v K
def OnTut (K : Array Value → Prop) (tk : Tok K K) (v : Value) : Prop := OnTu v K
def OnOwnt (K : TypeId → Bool → List Value → Prop) (tk : Tok K K) (v : Option SObj) : Prop := OnOwn v K
def OnFt (K : Nat → Array Value → Array Value → Prop) (tk : Tok K K) (v : Value) : Prop := OnF v K
@[simp] theorem OnFt_f (g : Nat) (a b : Array Value) (K : Nat → Array Value → Array Value → Prop) (tk : Tok K K) : OnFt K tk (.func (.func g) a b) = K g a b := rfl
def OnNt (K : Addr → Prop) (tk : Tok K K) (v : Value) : Prop := OnN v K
@[simp] theorem Gett_some {α : Type} (v : α) (K : α → Prop) (tk : Tok K K) : Gett K tk (some v) = K v := rfl
@[simp] theorem Chkt_true (K : Prop) (tk : Tok K K) : Chkt K tk True = K := Chk_true K
@[simp] theorem Brt_true (K1 K2 : Prop) (tk : Tok K1 K2) : Brt K1 K2 tk true = K1 := rfl
@[simp] theorem Brt_false (K1 K2 : Prop) (tk : Tok K1 K2) : Brt K1 K2 tk false = K2 := rfl
@[simp] theorem Brt_not (b : Bool) (K1 K2 : Prop) (tk : Tok K1 K2) : Brt K1 K2 tk (!b) = Brt K2 K1 .mk b := by cases b <;> rfl
@[simp] theorem Gdt_true (b : Bool) (K1 K2 : Prop) (tk : Tok K1 K2) : Gdt K1 K2 tk (some b) true = Brt K1 K2 .mk b := Gd_true b K1 K2
@[simp] theorem Gdt_false (b : Bool) (K1 K2 : Prop) (tk : Tok K1 K2) : Gdt K1 K2 tk (some b) false = Brt K2 K1 .mk b := Gd_false b K1 K2
@[simp] theorem OnBt_bool (b : Bool) (K : Bool → Prop) (tk : Tok K K) : OnBt K tk (.bool b) = K b := rfl
@[simp] theorem OnIt_int (k : IntKind) (n : Int) (K : IntKind → Int → Prop) (tk : Tok K K) : OnIt K tk (.int k n) = K k n := rfl
@[simp] theorem OnPt_ptr (b i : Nat) (K : Nat → Nat → Prop) (tk : Tok K K) : OnPt K tk (.pointer (some ⟨b, i, none⟩)) = K b i := rfl
@[simp] theorem OnSlt_sl (a : Option Addr) (n c : Nat) (K : Option Addr → Nat → Nat → Prop) (tk : Tok K K) : OnSlt K tk (.slice a n c) = K a n c := rfl
@[simp] theorem OnAt_a (b i : Nat) (K : Nat → Nat → Prop) (tk : Tok K K) : OnAt K tk (some ⟨b, i, none⟩) = K b i := rfl
@[simp] theorem OnTt_t (s : ByteArray) (K : ByteArray → Prop) (tk : Tok K K) : OnTt K tk (.string s) = K s := rfl
@[simp] theorem OnGt_g (s : Array Value) (K : Array Value → Prop) (tk : Tok K K) : OnGt K tk (.agg s) = K s := rfl
@[simp] theorem OnTut_t (s : Array Value) (K : Array Value → Prop) (tk : Tok K K) : OnTut K tk (.tuple s) = K s := rfl
@[simp] theorem OnOwnt_o (e : TypeId) (l : Bool) (cs : List Value) (K : TypeId → Bool → List Value → Prop) (tk : Tok K K) : OnOwnt K tk (some (.own e l cs)) = K e l cs := rfl
@[simp] theorem OnNt_ptr (a : Addr) (K : Addr → Prop) (tk : Tok K K) : OnNt K tk (.pointer (some a)) = K a := rfl
theorem Chkt.mk {c K : Prop} {tk : Tok K K} (h : c) (hk : K) : Chkt K tk c := ⟨h, hk⟩
theorem Brt.mk {b : Bool} {K1 K2 : Prop} {tk : Tok K1 K2} (h1 : b = true → K1) (h2 : b = false → K2) : Brt K1 K2 tk b := Br.mk h1 h2
theorem Brt.mkD {p : Prop} [Decidable p] {K1 K2 : Prop} {tk : Tok K1 K2} (h1 : p → K1) (h2 : ¬ p → K2) : Brt K1 K2 tk (decide p) := Br.mkD h1 h2
theorem SWt.mk {P : Program} {f : FuncId} {Q : Value → SHeap → Prop} {tk : Tok f Q} {args : List Value} {H : SHeap} {R : Value → SHeap → Prop} (h : SW P f args H R) (hq : ∀ v H1, R v H1 → Q v H1) : SWt P f Q tk args H := SW.mono h hq
theorem LoopXt.mk {P : Program} {x : XCode} {Q : SExit → Fr → SHeap → Prop} {tk : Tok x Q} (I : Nat → Fr → SHeap → Prop) {F : Fr} {H : SHeap} (n : Nat) (h0 : I n F H)
    (round : ∀ n F H, I n F H → ∀ K : Fr → SHeap → Prop, (∀ m F1 H1, m < n → I m F1 H1 → K F1 H1) → XXt P x (seqX K Q) .mk F H) : LoopXt P x Q tk F H := LoopX.inv I (fun n F H h => round n F H h _ fun m F1 H1 hm hI => ⟨m, hm, hI⟩) n F H h0
theorem SW.cps {P : Program} {f : FuncId} {args : List Value} {H : SHeap} {R : Value → SHeap → Prop} (h : ∀ Q : Value → SHeap → Prop, (∀ v H1, R v H1 → Q v H1) → SW P f args H Q) : SW P f args H R := h R fun _ _ h => h
theorem SW.intot {P : Program} {f : FuncId} {fn : Func} {x : XFunc} {args : List Value} {H : SHeap} {Q : Value → SHeap → Prop} (hf : P.funcs[f]? = some fn) (hn : (fn.name == "runtime.NumGoroutine") = false) (hc : comp P fn = some x) (hl : args.length ≤ fn.ntmps)
    (h : XXt P x.code (retX P x.results Q) .mk (argF args) H) : SW P f args H Q := SW.into hf hn hc hl h
section
variable {P : Program} {r : List XOp} {F : Fr} {H : SHeap} {Q : Fr → SHeap → Prop}
@[simp] theorem tx_nil (tk : Tok ([] : List XOp) Q) : XWt P [] Q tk F H = Q F H := rfl
@[simp] theorem tx_mv (d : Nat) (x : Operand) (tk : Tok (mv d x :: r) Q) : XWt P (mv d x :: r) Q tk F H = XWt P r Q .mk (upd F d (fev F x)) H := xw_mv d x
@[simp] theorem tx_sa (d : Nat) (x : Operand) (tk : Tok (sa d x :: r) Q) : XWt P (sa d x :: r) Q tk F H = XWt P r Q .mk (upd F d (fev F x)) H := xw_sa d x
@[simp] theorem tx_mi (d t : Nat) (x : Operand) (tk : Tok (mi d t x :: r) Q) : XWt P (mi d t x :: r) Q tk F H = Chkt (XWt P r Q .mk (upd F d (.iface t (fev F x))) H) .mk (P.concrete t = true) := xw_mi d t x
@[simp] theorem tx_mf (d : Nat) (fn : Fn) (a b : Array Operand) (tk : Tok (mf d fn a b :: r) Q) : XWt P (mf d fn a b :: r) Q tk F H = XWt P r Q .mk (upd F d (.func fn (a.map (fev F)) (b.map (fev F)))) H := xw_mf d fn a b
@[simp] theorem tx_cl (d f : Nat) (args : List Operand) (tk : Tok (cl d f args :: r) Q) : XWt P (cl d f args :: r) Q tk F H = SWt P f (fun v H1 => XWt P r Q .mk (upd F d v) H1) .mk (args.map (fev F)) H := xw_cl d f args
@[simp] theorem tx_cl_ (f : Nat) (args : List Operand) (tk : Tok (cl_ f args :: r) Q) : XWt P (cl_ f args :: r) Q tk F H = SWt P f (fun v H1 => XWt P r Q .mk F H1) .mk (args.map (fev F)) H := xw_cl_ f args
@[simp] theorem tx_ncl (d f : Nat) (args : List Operand) (tk : Tok (nb (cl d f args) :: r) Q) : XWt P (nb (cl d f args) :: r) Q tk F H = SWt P f (fun v H1 => Ext H H1 ∧ XWt P r Q .mk (upd F d v) H1) .mk (args.map (fev F)) H := xw_ncl d f args
theorem tx_bd {d t : Nat} {ps : List (Nat × Operand)} {z : Value} {pl : List (Nat × Nat)} (hz : zero? P t = some z) (hzf : flat z = true) (hp : places P t = some pl) (tk : Tok (bd d t ps :: r) Q) :
    XWt P (bd d t ps :: r) Q tk F H = Gett (fun out => XWt P r Q .mk (upd F d (.agg out.toArray)) H) .mk (fillL pl z.cells.toList (ps.map fun p => (p.1, fev F p.2))) := x_bd hz hzf hp
theorem tx_cvi {d s t : Nat} {x : Operand} {ks k : IntKind} (hs : intT P s = some ks) (ht : intT P t = some k) (hx : isInt (fev F x) = true) (tk : Tok (cv d s t x :: r) Q) : XWt P (cv d s t x :: r) Q tk F H = XWt P r Q .mk (upd F d (.int k (k.wrap (intOf (fev F x))))) H := x_cvi hs ht hx
@[simp] theorem tx_gd (j : Nat) (w : Bool) (x : XOp) (tk : Tok (gd j w x :: r) Q) : (XWt P (gd j w x :: r) Q tk F H) = (Gdt ((XWt P (ug x :: r) Q .mk F H)) ((XWt P r Q .mk (fput F x.d undef) H)) .mk (boolOf (F j)) w) := x_gd j w x
@[simp] theorem tx_pk (d : Nat) (c a b : Operand) (tk : Tok (pk d c a b :: r) Q) : (XWt P (pk d c a b :: r) Q tk F H) = (OnBt (fun t => (XWt P r Q .mk (upd F d (if t = true then fev F a else fev F b)) H)) .mk (fev F c)) := x_pk d c a b
@[simp] theorem tx_al (d e : Nat) (tk : Tok (al d e :: r) Q) : (XWt P (al d e :: r) Q tk F H) = (Gett (fun z => (Chkt ((XWt P r Q .mk (upd F d (.pointer (some ⟨H.length, 0, none⟩))) (H ++ [.own e false z.cells.toList]))) .mk (flat z = true ∧ (sz? P e).isSome = true))) .mk (zero? P e)) := x_al d e
@[simp] theorem tx_bx (d e : Nat) (x : Operand) (tk : Tok (bx d e x :: r) Q) : (XWt P (bx d e x :: r) Q tk F H) = (Chkt ((XWt P r Q .mk (upd F d (.pointer (some ⟨H.length, 0, none⟩))) (H ++ [.own e false (fev F x).cells.toList]))) .mk ((sz? P e).isSome = true)) := x_bx d e x
@[simp] theorem tx_ld (d t : Nat) (x : Operand) (tk : Tok (ld d t x :: r) Q) : (XWt P (ld d t x :: r) Q tk F H) = (OnPt (fun b i => (Gett (fun cs => (Gett (fun g => (Brt ((Gett (fun n => (Chkt ((XWt P r Q .mk (upd F d (.agg ((cs.drop i).take n).toArray)) H)) .mk (i + n ≤ cs.length))) .mk (sz? P t))) ((Gett (fun v => (XWt P r Q .mk (upd F d v) H)) .mk cs[i]?)) .mk g)) .mk (aggB P t))) .mk ((H[b]?).bind SObj.cells?))) .mk (fev F x)) := x_ld d t x
@[simp] theorem tx_st (t : Nat) (x y : Operand) (tk : Tok (st t x y :: r) Q) : (XWt P (st t x y :: r) Q tk F H) = (OnPt (fun b i => (OnOwnt (fun e l cs => (Chkt ((XWt P r Q .mk F (H.set b (.own e l (wrc cs i (fev F y).cells.toList))))) .mk (sz? P t = some (fev F y).cells.size ∧ i + (fev F y).cells.size ≤ cs.length ∧ ((fev F y).cells.toList.all (·.oneCell')) = true))) .mk H[b]?)) .mk (fev F x)) := x_st t x y
@[simp] theorem tx_nc (d : Nat) (x : Operand) (tk : Tok (nc d x :: r) Q) : (XWt P (nc d x :: r) Q tk F H) = (OnNt (fun a => (XWt P r Q .mk (upd F d (.pointer (some a))) H)) .mk (fev F x)) := x_nc d x
@[simp] theorem tx_bi (d : Nat) (op : BinOp) (t : Nat) (x y : Operand) (tk : Tok (bi d op t x y :: r) Q) : (XWt P (bi d op t x y :: r) Q tk F H) = (Gett (fun v => (XWt P r Q .mk (upd F d v) H)) .mk (sbin P op t (fev F x) (fev F y))) := x_bi d op t x y
@[simp] theorem tx_un (d : Nat) (op : UnOp) (x : Operand) (tk : Tok (un d op x :: r) Q) : (XWt P (un d op x :: r) Q tk F H) = (Gett (fun v => (XWt P r Q .mk (upd F d v) H)) .mk (sun op (fev F x))) := x_un d op x
@[simp] theorem tx_fa (d s : Nat) (x : Operand) (f : Nat) (tk : Tok (fa d s x f :: r) Q) : (XWt P (fa d s x f :: r) Q tk F H) = (OnPt (fun b i => (Gett (fun off => (XWt P r Q .mk (upd F d (.pointer (some ⟨b, i + off, none⟩))) H)) .mk (fieldOff P s f))) .mk (fev F x)) := x_fa d s x f
@[simp] theorem tx_fi (d s : Nat) (x : Operand) (f : Nat) (tk : Tok (fi d s x f :: r) Q) : (XWt P (fi d s x f :: r) Q tk F H) = (OnGt (fun cs => (Gett (fun c => (Gett (fun v => (XWt P r Q .mk (upd F d v) H)) .mk (cutCells cs c))) .mk (fieldCut P s f))) .mk (fev F x)) := x_fi d s x f
@[simp] theorem tx_ia (d t : Nat) (x i : Operand) (tk : Tok (ia d t x i :: r) Q) : (XWt P (ia d t x i :: r) Q tk F H) = (OnSlt (fun a len _ => (OnIt (fun _ n => (Gett (fun e => (Gett (fun sz => (OnAt (fun b o => (Chkt ((XWt P r Q .mk (upd F d (.pointer (some ⟨b, o + n.toNat * sz, none⟩))) H)) .mk (0 ≤ n ∧ n < len))) .mk a)) .mk (sz? P e))) .mk (sliceE P t))) .mk (fev F i))) .mk (fev F x)) := x_ia d t x i
@[simp] theorem tx_ix (d t : Nat) (x i : Operand) (tk : Tok (ix d t x i :: r) Q) : (XWt P (ix d t x i :: r) Q tk F H) = (OnTt (fun s => (OnIt (fun _ n => (Chkt ((XWt P r Q .mk (upd F d (.int .u8 ((s.data.getD n.toNat 0).toNat : Int))) H)) .mk (strT P t = true ∧ 0 ≤ n ∧ n < s.size))) .mk (fev F i))) .mk (fev F x)) := x_ix d t x i
@[simp] theorem tx_ex (d : Nat) (x : Operand) (i : Nat) (tk : Tok (ex d x i :: r) Q) : (XWt P (ex d x i :: r) Q tk F H) = (OnTut (fun vs => (Gett (fun v => (XWt P r Q .mk (upd F d v) H)) .mk vs[i]?)) .mk (fev F x)) := x_ex d x i
@[simp] theorem tx_ct (d : Nat) (x : Operand) (args : List Operand) (tk : Tok (ct d x args :: r) Q) : (XWt P (ct d x args :: r) Q tk F H) = (OnFt (fun g a b => (SWt P g ((fun v H1 => (XWt P r Q .mk (upd F d v) H1))) .mk (a.toList ++ args.map (fev F) ++ b.toList) H)) .mk (fev F x)) := x_ct d x args
@[simp] theorem tx_ln (d t : Nat) (x : Operand) (tk : Tok (ln d t x :: r) Q) : (XWt P (ln d t x :: r) Q tk F H) = (Gett (fun ( n : Nat ) => (XWt P r Q .mk (upd F d (.int .i64 n)) H)) .mk (lenOf P t (fev F x))) := x_ln d t x
@[simp] theorem tx_mxi (d : Nat) (ts : List Nat) (x y : Operand) (tk : Tok (mxi d ts x y :: r) Q) : (XWt P (mxi d ts x y :: r) Q tk F H) = (OnIt (fun k a => (OnIt (fun _ b => (XWt P r Q .mk (upd F d (.int k (if b > a then b else a))) H)) .mk (fev F y))) .mk (fev F x)) := x_mxi d ts x y
@[simp] theorem tx_mni (d : Nat) (ts : List Nat) (x y : Operand) (tk : Tok (mni d ts x y :: r) Q) : (XWt P (mni d ts x y :: r) Q tk F H) = (OnIt (fun k a => (OnIt (fun _ b => (XWt P r Q .mk (upd F d (.int k (if b < a then b else a))) H)) .mk (fev F y))) .mk (fev F x)) := x_mni d ts x y
end
section
variable {P : Program} {F : Fr} {H : SHeap} {Q : SExit → Fr → SHeap → Prop}
@[simp] theorem txx_skip  (tk : Tok (.skip : XCode) Q) : (XXt P .skip Q tk F H) = Q .normal F H := xx_skip
@[simp] theorem txx_ret  (tk : Tok (.ret : XCode) Q) : (XXt P .ret Q tk F H) = Q .ret F H := xx_ret
@[simp] theorem txx_exit (id : Nat) (tk : Tok ((.exit id) : XCode) Q) : (XXt P (.exit id) Q tk F H) = Q (.exit id) F H := xx_exit id
@[simp] theorem txx_seq (x y : XCode) (tk : Tok ((.seq x y) : XCode) Q) : (XXt P (.seq x y) Q tk F H) = (XXt P x (seqX ((fun F1 H1 => (XXt P y Q .mk F1 H1))) Q) .mk F H) := xx_seq x y
@[simp] theorem txx_cond (c : Operand) (x y : XCode) (tk : Tok ((.cond c x y) : XCode) Q) : (XXt P (.cond c x y) Q tk F H) = (OnBt (fun b => (Brt ((XXt P x Q .mk F H)) ((XXt P y Q .mk F H)) .mk b)) .mk (fev F c)) := xx_cond c x y
@[simp] theorem txx_block (id : Nat) (x : XCode) (tk : Tok ((.block id x) : XCode) Q) : (XXt P (.block id x) Q tk F H) = (XXt P x (blockX id Q) .mk F H) := xx_block id x
@[simp] theorem txx_loop (x : XCode) (tk : Tok ((.loop x) : XCode) Q) : (XXt P (.loop x) Q tk F H) = (LoopXt P x Q .mk F H) := xx_loop x
@[simp] theorem txx_ops (l : List XOp) (tk : Tok ((.ops l) : XCode) Q) : (XXt P (.ops l) Q tk F H) = (XWt P l ((fun F1 H1 => Q .normal F1 H1)) .mk F H) := xx_ops l
@[simp] theorem txr_nil {K : List Value → Prop} (tk : Tok ([] : List ResultVar) K) : (XRt P [] K tk F H) = K [] := xr_nil
@[simp] theorem txr_tmp {K : List Value → Prop} (i : Nat) (rs : List ResultVar) (tk : Tok ((.tmp i :: rs) : List ResultVar) K) : (XRt P (.tmp i :: rs) K tk F H) = (XRt P rs (fun vs => K (F i :: vs)) .mk F H) := xr_tmp i rs
@[simp] theorem txr_cell {K : List Value → Prop} (a ty : Nat) (rs : List ResultVar) (tk : Tok ((.cell a ty :: rs) : List ResultVar) K) : (XRt P (.cell a ty :: rs) K tk F H) = (OnPt (fun b i => (Gett (fun cs => (Gett (fun g => (Brt ((Gett (fun n => (Chkt ((XRt P rs (fun vs => K (.agg ((cs.drop i).take n).toArray :: vs)) .mk F H)) .mk (i + n ≤ cs.length))) .mk (sz? P ty))) ((Gett (fun v => (XRt P rs (fun vs => K (v :: vs)) .mk F H)) .mk cs[i]?)) .mk g)) .mk (aggB P ty))) .mk ((H[b]?).bind SObj.cells?))) .mk (F a)) := xr_cell a ty rs
@[simp] theorem tretX_n {rs : List ResultVar} {R : Value → SHeap → Prop} : retX P rs R .normal F H = XRt P rs (fun vs => R (retOf vs) H) .mk F H := rfl
@[simp] theorem tretX_r {rs : List ResultVar} {R : Value → SHeap → Prop} : retX P rs R .ret F H = XRt P rs (fun vs => R (retOf vs) H) .mk F H := rfl
attribute [simp] seqX_n seqX_r seqX_e blockX_n blockX_r blockX_e
end
def Sl (H : SHeap) (e sz : Nat) (v : Value) (n : Nat) (cs : List Value) : Prop :=
  ∃ a cap, v = .slice a n cap ∧ n ≤ cap ∧ cs.length = n * sz ∧ (0 < cap → ∃ b i X all, a = some ⟨b, i, none⟩ ∧ H[b]? = some X ∧ X.cells? = some all ∧ X.elem? = some e ∧ i + n * sz ≤ all.length ∧ cs = (all.drop i).take (n * sz))
theorem Ext.tr {H H1 H2 : SHeap} (h : Ext H H1) (h' : Ext H1 H2) : Ext H H2 := by
  obtain ⟨N, rfl, hn⟩ := h
  obtain ⟨M, rfl, hm⟩ := h'
  refine ⟨N ++ M, by simp, fun x hx => ?_⟩
  rcases List.mem_append.1 hx with hx | hx
  · exact hn x hx
  · exact hm x hx
theorem Ext.snoc {H0 H : SHeap} (h : Ext H0 H) (e : TypeId) (l : Bool) (cs : List Value) : Ext H0 (H ++ [.own e l cs]) := h.tr ⟨[.own e l cs], rfl, fun x hx e' cs' => by simp at hx; subst hx; simp⟩
theorem Ext.set {H0 H : SHeap} (h : Ext H0 H) {b : Nat} (hb : H0.length ≤ b) {X : SObj} (hX : ∀ e cs, X ≠ .ro e cs) : Ext H0 (H.set b X) := by
  obtain ⟨N, rfl, hn⟩ := h
  refine ⟨N.set (b - H0.length) X, by rw [List.set_append_right _ _ hb], fun x hx e cs => ?_⟩
  rcases List.mem_or_eq_of_mem_set hx with hx | rfl
  · exact hn x hx e cs
  · exact hX e cs
theorem Sl.ext {H H1 : SHeap} {e sz n : Nat} {v : Value} {cs : List Value} (h : Sl H e sz v n cs) (hx : Ext H H1) : Sl H1 e sz v n cs := by
  obtain ⟨a, cap, hv, h1, h2, h3⟩ := h
  refine ⟨a, cap, hv, h1, h2, fun hc => ?_⟩
  obtain ⟨b, i, X, all, q1, q2, q3⟩ := h3 hc
  exact ⟨b, i, X, all, q1, hx.get_some q2, q3⟩
theorem Sl.len {H : SHeap} {e sz n : Nat} {v : Value} {cs : List Value} (h : Sl H e sz v n cs) : ∃ a cap, v = .slice a n cap := by
  obtain ⟨a, cap, hv, -⟩ := h; exact ⟨a, cap, hv⟩
theorem Sl.at {H : SHeap} {e sz n : Nat} {v : Value} {cs : List Value} (h : Sl H e sz v n cs) (hn : 0 < n) : ∃ b i cap X all, v = .slice (some ⟨b, i, none⟩) n cap ∧ H[b]? = some X ∧ X.cells? = some all ∧ i + n * sz ≤ all.length ∧ ∀ k, k < n * sz → all[i + k]? = cs[k]? := by
  obtain ⟨a, cap, rfl, h1, h2, h3⟩ := h
  obtain ⟨b, i, X, all, rfl, q2, q3, q4, q5, q6⟩ := h3 (by omega)
  refine ⟨b, i, cap, X, all, rfl, q2, q3, q5, fun k hk => ?_⟩
  rw [q6, List.getElem?_take_of_lt hk, List.getElem?_drop]
theorem Sl.src {H : SHeap} {e sz n : Nat} {v : Value} {cs : List Value} (h : Sl H e sz v n cs) {m : Nat} (hm : m ≤ n) : Src H sz v n m (cs.take (m * sz)) := by
  obtain ⟨a, cap, rfl, h1, h2, h3⟩ := h
  by_cases h0 : m = 0
  · subst h0; simpa using Src.zeroS
  · obtain ⟨b, i, X, all, rfl, q2, q3, q4, q5, rfl⟩ := h3 (by omega)
    have hms : m * sz ≤ n * sz := Nat.mul_le_mul_right _ hm
    rw [List.take_take, Nat.min_eq_left hms]
    exact .row q2 q3 (by omega) hm (by omega)
theorem Sl.nil (H : SHeap) (e sz : Nat) : Sl H e sz (.slice none 0 0) 0 [] := ⟨none, 0, rfl, Nat.le_refl _, by simp, fun h => absurd h (by omega)⟩
theorem Sl.void (H : SHeap) (e sz : Nat) (a : Option Addr) : Sl H e sz (.slice a 0 0) 0 [] := ⟨a, 0, rfl, Nat.le_refl _, by simp, fun h => absurd h (by omega)⟩
section
variable {P : Program} {r : List XOp} {F : Fr} {H : SHeap} {Q : Fr → SHeap → Prop}
theorem tx_mx {b : Bool} {d : Option Nat} {op : Op} {tk : Tok ((⟨b, none, d, op⟩ : XOp) :: r) Q} (hv : isVal op = false) (hm : mxOp op = true) (hn : sop P (fev F) H op = none) {v : Value} {H1 : SHeap} (hq : ∀ o : Oper, o.op = op → MOp P (fev F) H o v H1) (hf : ∀ o : Oper, o.op = op → isF P o = false)
    (hb : b = true ∨ Ext H H1) (h : XWt P r Q .mk (fput F d v) H1) : XWt P (⟨b, none, d, op⟩ :: r) Q tk F H := xw_mx hv hm hn (fun o ho => ⟨hf o ho, hq o ho⟩) hb h
theorem tx_slb {bb : Bool} {d t e sz n l h : Nat} {x : Operand} {lo hi : Option Operand} {cs : List Value} {tk : Tok ((⟨bb, none, some d, .slice t x lo hi none⟩ : XOp) :: r) Q} (hS : Sl H e sz (fev F x) n cs) (hu : P.underlying t = some (.slice e)) (hs : sz? P e = some sz) (hl : loOf (fev F) lo = some l) (hh : hiOf (fev F) n hi = some h) (h1 : l ≤ h) (h2 : h ≤ n)
    (K : ∀ v', Sl H e sz v' (h - l) ((cs.drop (l * sz)).take ((h - l) * sz)) → XWt P r Q .mk (upd F d v') H) : XWt P ((⟨bb, none, some d, .slice t x lo hi none⟩ : XOp) :: r) Q tk F H := by
  obtain ⟨a, cap, hv, h3, h4, h5⟩ := hS
  have hsop : sop P (fev F) H (.slice t x lo hi none) = none := by simp only [sop, hv]
  have hF : ∀ o : Oper, o.op = .slice t x lo hi none → isF P o = false := fun o ho => by simp [isF, ho]
  have hlen : ((cs.drop (l * sz)).take ((h - l) * sz)).length = (h - l) * sz := by
    have : h * sz ≤ n * sz := Nat.mul_le_mul_right _ h2
    have : l * sz ≤ h * sz := Nat.mul_le_mul_right _ h1
    have : (h - l) * sz = h * sz - l * sz := Nat.sub_mul _ _ _
    simp [h4]; omega
  by_cases hc : cap = 0
  · have hn0 : n = 0 := by omega
    have hh0 : h = 0 := by omega
    have hl0 : l = 0 := by omega
    subst hc hn0 hh0 hl0
    refine tx_mx (v := .slice a 0 0) (H1 := H) rfl rfl hsop (fun o ho => .sliceZero ho hu hs hv hl hh) hF (.inr (Ext.refl H)) (K _ ?_)
    have : (cs.drop (0 * sz)).take ((0 - 0) * sz) = [] := by simp
    rw [this]
    exact Sl.void H e sz a
  · obtain ⟨b, i, X, all, rfl, q2, q3, q4, q5, q6⟩ := h5 (by omega)
    by_cases hlc : l < cap
    · refine tx_mx (v := .slice (some ⟨b, i + l * sz, none⟩) (h - l) (cap - l)) (H1 := H) rfl rfl hsop (fun o ho => .slice ho hu hs hv q2 q4 hl hh h1 (by omega) hlc) hF (.inr (Ext.refl H)) (K _ ?_)
      refine ⟨_, _, rfl, by omega, hlen, fun _ => ⟨b, i + l * sz, X, all, rfl, q2, q3, q4, ?_, ?_⟩⟩
      · have : h * sz ≤ n * sz := Nat.mul_le_mul_right _ h2
        have : l * sz ≤ h * sz := Nat.mul_le_mul_right _ h1
        have : (h - l) * sz = h * sz - l * sz := Nat.sub_mul _ _ _
        omega
      · rw [q6, List.drop_take, List.drop_drop, List.take_take]
        congr 1
        have : h * sz ≤ n * sz := Nat.mul_le_mul_right _ h2
        have : (h - l) * sz = h * sz - l * sz := Nat.sub_mul _ _ _
        omega
    · have e1 : l = cap := by omega
      have e2 : h = cap := by omega
      have e3 : n = cap := by omega
      subst e1 e2
      refine tx_mx (v := .slice (some ⟨b, i, none⟩) 0 0) (H1 := H) rfl rfl hsop (fun o ho => .sliceEnd ho hu hs hv (by omega) hl hh) hF (.inr (Ext.refl H)) (K _ ?_)
      rw [Nat.sub_self, Nat.zero_mul, List.take_zero]
      exact Sl.void H e sz _
theorem tx_sl {d t e sz n l h : Nat} {x : Operand} {lo hi : Option Operand} {cs : List Value} {tk : Tok (sl d t x lo hi none :: r) Q} (hS : Sl H e sz (fev F x) n cs) (hu : P.underlying t = some (.slice e)) (hs : sz? P e = some sz) (hl : loOf (fev F) lo = some l) (hh : hiOf (fev F) n hi = some h) (h1 : l ≤ h) (h2 : h ≤ n)
    (K : ∀ v', Sl H e sz v' (h - l) ((cs.drop (l * sz)).take ((h - l) * sz)) → XWt P r Q .mk (upd F d v') H) : XWt P (sl d t x lo hi none :: r) Q tk F H := tx_slb (bb := true) hS hu hs hl hh h1 h2 K
theorem tx_ms {d t e sz by_ l c : Nat} {x y : Operand} {kl kc : IntKind} {z : Value} {tk : Tok (ms d t x y :: r) Q} (hu : P.underlying t = some (.slice e)) (hs : sz? P e = some sz) (hb : bytes? P e = some by_) (hz : zero? P e = some z) (hzf : flat z = true) (hzs : z.cells.size = sz)
    (hx : fev F x = .int kl (l : Int)) (hy : fev F y = .int kc (c : Int)) (hsz : 0 < sz) (hby : 0 < by_) (hlc : l ≤ c) (hc : 0 < c) (hfit : by_ * c ≤ 281474976710656)
    (K : XWt P r Q .mk (upd F d (.slice (some ⟨H.length, 0, none⟩) l c)) (H ++ [.own e false (made z (c * sz))])) : XWt P (ms d t x y :: r) Q tk F H :=
  tx_mx (v := .slice (some ⟨H.length, 0, none⟩) l c) rfl rfl rfl (fun o ho => .make ho hu hs hb hz hzf hzs hx hy hsz hby hlc hc hfit) (fun o ho => by simp [isF, ho]) (.inl rfl) K
theorem tx_ms0 {d t e sz by_ : Nat} {x y : Operand} {kl kc : IntKind} {tk : Tok (ms d t x y :: r) Q} (hu : P.underlying t = some (.slice e)) (hs : sz? P e = some sz) (hb : bytes? P e = some by_) (hx : fev F x = .int kl 0) (hy : fev F y = .int kc 0)
    (K : XWt P r Q .mk (upd F d (.slice (some ⟨0, 0, none⟩) 0 0)) H) : XWt P (ms d t x y :: r) Q tk F H :=
  tx_mx (v := .slice (some ⟨0, 0, none⟩) 0 0) rfl rfl rfl (fun o ho => .make0 ho hu hs hb hx hy) (fun o ho => by simp [isF, ho]) (.inl rfl) K
theorem tx_bs {d t e sz len : Nat} {ps : List (Nat × Operand)} {z : Value} {out : List Value} {tk : Tok (bs d t len ps :: r) Q} (hu : P.underlying t = some (.slice e)) (hs : sz? P e = some sz) (hz : zero? P e = some z) (hzf : flat z = true) (hzs : z.cells.size = sz)
    (hsz : 0 < sz) (hl : 0 < len) (hfit : len * sz ≤ 16777216) (ho : fillP (fun i => some (i * sz, sz)) (made z (len * sz)) (ps.map fun p => (p.1, fev F p.2)) = some out) (hol : out.length = len * sz)
    (K : XWt P r Q .mk (upd F d (.slice (some ⟨H.length, 0, none⟩) len len)) (H ++ [.own e false out])) : XWt P (bs d t len ps :: r) Q tk F H := by
  have hf : Instr.fill (fun i => some (i * sz, sz)) (made z (len * sz)).toArray (ps.toArray.toList.map fun p => (p.1, fev F p.2)) = some out.toArray := by
    rw [fill_eq]
    have : (ps.toArray.toList.map fun p => (p.1, fev F p.2)) = ps.map fun p => (p.1, fev F p.2) := by simp
    rw [this]
    simp only
    rw [ho]
    rfl
  have hq : ∀ o : Oper, o.op = .buildSlice t len ps.toArray → MOp P (fev F) H o (.slice (some ⟨H.length, 0, none⟩) len len) (H ++ [.own e false out]) := fun o ho' => .build (out := out.toArray) ho' hu hs hz hzf hzs hsz hl hfit hf (by simpa using hol)
  exact tx_mx rfl rfl rfl hq (fun o ho => by simp [isF, ho]) (.inl rfl) K
theorem tx_bs0 {d t e sz : Nat} {tk : Tok (bs d t 0 [] :: r) Q} (hu : P.underlying t = some (.slice e)) (hs : sz? P e = some sz) (K : XWt P r Q .mk (upd F d (.slice (some ⟨0, 0, none⟩) 0 0)) H) : XWt P (bs d t 0 [] :: r) Q tk F H :=
  tx_mx (v := .slice (some ⟨0, 0, none⟩) 0 0) rfl rfl rfl (fun o ho => .build0 ho hu hs) (fun o ho => by simp [isF, ho]) (.inl rfl) K
def Ow (H : SHeap) (k e sz : Nat) (v : Value) (n : Nat) (cs : List Value) : Prop := cs.length = n * sz ∧
  ((n = 0 ∧ (v = .slice none 0 0 ∨ ∃ i, v = .slice (some ⟨0, i, none⟩) 0 0)) ∨ ∃ b i cap l all, v = .slice (some ⟨b, i, none⟩) n cap ∧ 0 < cap ∧ n ≤ cap ∧ k ≤ b ∧ H[b]? = some (.own e l all) ∧ i + cap * sz ≤ all.length ∧ cs = (all.drop i).take (n * sz))
theorem Ow.sl {H : SHeap} {k e sz n : Nat} {v : Value} {cs : List Value} (h : Ow H k e sz v n cs) : Sl H e sz v n cs := by
  obtain ⟨h1, ⟨rfl, h2⟩ | ⟨b, i, cap, l, all, rfl, q1, q2, q3, q4, q5, q6⟩⟩ := h
  · have : cs = [] := List.eq_nil_of_length_eq_zero (by simpa using h1)
    subst this
    rcases h2 with rfl | ⟨i, rfl⟩
    · exact Sl.nil H e sz
    · exact Sl.void H e sz _
  · have : n * sz ≤ cap * sz := Nat.mul_le_mul_right _ q2
    exact ⟨_, _, rfl, q2, h1, fun _ => ⟨b, i, _, all, rfl, q4, rfl, rfl, by omega, q6⟩⟩
theorem Ow.ext {H H1 : SHeap} {k e sz n : Nat} {v : Value} {cs : List Value} (h : Ow H k e sz v n cs) (hx : Ext H H1) : Ow H1 k e sz v n cs := by
  obtain ⟨h1, h2 | ⟨b, i, cap, l, all, q⟩⟩ := h
  · exact ⟨h1, .inl h2⟩
  · exact ⟨h1, .inr ⟨b, i, cap, l, all, q.1, q.2.1, q.2.2.1, q.2.2.2.1, hx.get_some q.2.2.2.2.1, q.2.2.2.2.2⟩⟩
theorem Ow.nil (H : SHeap) (k e sz : Nat) : Ow H k e sz (.slice none 0 0) 0 [] := ⟨by simp, .inl ⟨rfl, .inl rfl⟩⟩
theorem Ow.void (H : SHeap) (k e sz i : Nat) : Ow H k e sz (.slice (some ⟨0, i, none⟩) 0 0) 0 [] := ⟨by simp, .inl ⟨rfl, .inr ⟨i, rfl⟩⟩⟩
def inBlock (v : Value) (b : Nat) : Prop := ∃ i n c, v = .slice (some ⟨b, i, none⟩) n c
theorem tx_ap {d ts tx e sz by_ k n m : Nat} {s x : Operand} {z : Value} {cs news : List Value} {tk : Tok (ap d ts tx s x :: r) Q} (hO : Ow H k e sz (fev F s) n cs) (hsrc : Src H sz (fev F x) m m news) (hu : P.underlying ts = some (.slice e)) (hx : srcT P tx = true) (hs : sz? P e = some sz) (hb : bytes? P e = some by_) (hz : zero? P e = some z) (hzs : z.cells.size = sz)
    (hby : 0 < by_) (hfit : (n + m) * by_ ≤ 140737488355328) (h1c : (news.all (·.oneCell')) = true) (hnl : news.length = m * sz) (hk : k ≤ H.length)
    (K : ∀ v' H', Ow H' k e sz v' (n + m) (cs ++ news) → (∀ H0 : SHeap, H0.length ≤ k → Ext H0 H → Ext H0 H') → (∀ b X, H[b]? = some X → (inBlock (fev F s) b → X.elem? ≠ some e) → H'[b]? = some X) → (∀ b, inBlock v' b → inBlock (fev F s) b ∨ b = H.length) → H.length ≤ H'.length → XWt P r Q .mk (upd F d v') H') : XWt P (ap d ts tx s x :: r) Q tk F H := by
  obtain ⟨hl, hO⟩ := hO
  have hF : ∀ o : Oper, o.op = .call { callee := .builtin .append, args := #[s, x], argTypes := #[ts, tx] } → isF P o = false := fun o ho => by simp [isF, ho]
  have hn : sop P (fev F) H (.call { callee := .builtin .append, args := #[s, x], argTypes := #[ts, tx] }) = none := rfl
  by_cases hm : m = 0
  · subst hm
    have hnews : news = [] := List.eq_nil_of_length_eq_zero (by simpa using hnl)
    subst hnews
    obtain ⟨a, nn, cap, hv, hnn⟩ : ∃ a nn cap, fev F s = .slice a nn cap ∧ nn = n := by
      rcases hO with ⟨rfl, h | ⟨i, h⟩⟩ | ⟨b, i, cap, l, all, h, -⟩
      · exact ⟨_, _, _, h, rfl⟩
      · exact ⟨_, _, _, h, rfl⟩
      · exact ⟨_, _, _, h, rfl⟩
    refine tx_mx (v := .slice a nn cap) (H1 := H) rfl rfl hn (fun o ho => .app0 ho hu hx hs hsrc hv) hF (.inl rfl) ?_
    exact K _ H (by rw [List.append_nil, Nat.add_zero, ← hv]; exact ⟨hl, hO⟩) (fun H0 _ h => h) (fun b X h _ => h) (fun b h => .inl (by rw [hv]; exact h)) (Nat.le_refl _)
  · have hm' : 0 < m := by omega
    have new : ∀ cs' : List Value, cs'.length = (n + m) * sz → cs' = cs ++ news → Ow (H ++ [.own e true cs']) k e sz (.slice (some ⟨H.length, 0, none⟩) (n + m) (n + m)) (n + m) (cs ++ news) := fun cs' h1 h2 =>
      ⟨by rw [← h2, h1], .inr ⟨H.length, 0, n + m, true, cs', rfl, by omega, Nat.le_refl _, hk, by simp, by omega, by rw [List.drop_zero, ← h2, ← h1, List.take_length]⟩⟩
    rcases hO with ⟨rfl, h⟩ | ⟨b, i, cap, l, all, hv, q1, q2, q3, q4, q5, q6⟩
    · have hcs : cs = [] := List.eq_nil_of_length_eq_zero (by simpa using hl)
      subst hcs
      obtain ⟨a, ha, hv⟩ : ∃ a : Option Addr, (a = none ∨ ∃ i, a = some ⟨0, i, none⟩) ∧ fev F s = .slice a 0 0 := by
        rcases h with h | ⟨i, h⟩
        · exact ⟨none, .inl rfl, h⟩
        · exact ⟨_, .inr ⟨i, rfl⟩, h⟩
      refine tx_mx (v := .slice (some ⟨H.length, 0, none⟩) m m) (H1 := H ++ [.own e true news]) rfl rfl hn (fun o ho => .appNew ho hu hx hs hb hz hzs hsrc hm' hby (by simpa using hfit) ha hv) hF (.inl rfl) ?_
      have := new news (by simpa using hnl) rfl
      simp only [Nat.zero_add] at this
      refine K _ _ (by simpa using this) (fun H0 _ h => h.snoc _ _ _) (fun b X h _ => ?_) (fun b hb => ?_) (by simp)
      · rw [List.getElem?_append_left (gsI.1 h).1]; exact h
      · obtain ⟨i, n, c, he⟩ := hb
        simp at he
        exact .inr he.1.1.symm
    · by_cases hroom : n + m ≤ cap
      · have hcap : (n + m) * sz ≤ cap * sz := Nat.mul_le_mul_right _ hroom
        have hadd : (n + m) * sz = n * sz + m * sz := Nat.add_mul _ _ _
        have hfit2 : i + n * sz + news.length ≤ all.length := by omega
        refine tx_mx (v := .slice (some ⟨b, i, none⟩) (n + m) cap) (H1 := H.set b (.own e l (spl all (i + n * sz) news))) rfl rfl hn (fun o ho => .appIn ho hu hx hs hsrc hroom q1 q4 hfit2 h1c hv) hF (.inl rfl) ?_
        have hbl : b < H.length := (gsI.1 q4).1
        refine K _ _ ⟨by rw [List.length_append, hl, hnl, hadd], .inr ⟨b, i, cap, l, spl all (i + n * sz) news, rfl, q1, hroom, q3, by simp [hbl], by rw [spl_length hfit2]; exact q5, ?_⟩⟩ (fun H0 h0 h => h.set (by omega) (by simp)) (fun b' X h hb' => ?_) (fun b' hb' => ?_) (by simp)
        · rw [q6]
          have e1 : spl all (i + n * sz) news = all.take (i + n * sz) ++ news ++ all.drop (i + n * sz + news.length) := rfl
          rw [e1, List.append_assoc, List.drop_append_of_le_length (by simp; omega), List.take_append, List.drop_take]
          have h3 : i + n * sz - i = n * sz := by omega
          have h4 : ((all.drop i).take (n * sz)).length = n * sz := by simp; omega
          rw [h3, h4, hadd, List.take_take, Nat.min_eq_right (by omega), Nat.add_sub_cancel_left, ← hnl, List.take_append_of_le_length (Nat.le_refl _), List.take_length]
        · have : b ≠ b' := fun e' => by
            subst e'
            rw [q4] at h
            exact hb' ⟨i, n, cap, hv⟩ (by rw [← Option.some.inj h]; rfl)
          rw [List.getElem?_set_ne this]; exact h
        · obtain ⟨i', n', c', he⟩ := hb'
          simp at he
          exact .inl (by rw [← he.1.1]; exact ⟨i, n, cap, hv⟩)
      · have hfo : i + n * sz ≤ all.length := by
          have : n * sz ≤ cap * sz := Nat.mul_le_mul_right _ q2
          omega
        have hbl : b < H.length := (gsI.1 q4).1
        have hadd : (n + m) * sz = n * sz + m * sz := Nat.add_mul _ _ _
        have hcl : ((all.drop i).take (n * sz) ++ news).length = (n + m) * sz := by rw [List.length_append, ← q6, hl, hnl, hadd]
        have fresh : ∀ v' : Value, v' = .slice (some ⟨H.length, 0, none⟩) (n + m) (n + m) → ∀ b', inBlock v' b' → inBlock (fev F s) b' ∨ b' = H.length := fun v' e b' hb' => by
          obtain ⟨i', n', c', he⟩ := hb'
          rw [e] at he
          simp at he
          exact .inr he.1.1.symm
        cases l with
        | false =>
          refine tx_mx (v := .slice (some ⟨H.length, 0, none⟩) (n + m) (n + m)) (H1 := H ++ [.own e true ((all.drop i).take (n * sz) ++ news)]) rfl rfl hn (fun o ho => .appGrow ho hu hx hs hb hz hzs hsrc hm' hby hfit q4 hfo (by omega) q1 hv) hF (.inl rfl) ?_
          refine K _ _ (new _ hcl (by rw [q6])) (fun H0 _ h => h.snoc _ _ _) (fun b X h _ => ?_) (fresh _ rfl) (by simp)
          rw [List.getElem?_append_left (gsI.1 h).1]; exact h
        | true =>
          refine tx_mx (v := .slice (some ⟨H.length, 0, none⟩) (n + m) (n + m)) (H1 := H.set b .dead ++ [.own e true ((all.drop i).take (n * sz) ++ news)]) rfl rfl hn (fun o ho => .appMove ho hu hx hs hb hz hzs hsrc hm' hby hfit q4 hfo (by omega) q1 h1c hv) hF (.inl rfl) ?_
          have hnew : Ow (H.set b .dead ++ [.own e true ((all.drop i).take (n * sz) ++ news)]) k e sz (.slice (some ⟨H.length, 0, none⟩) (n + m) (n + m)) (n + m) (cs ++ news) :=
            ⟨by rw [List.length_append, hl, hnl, hadd], .inr ⟨H.length, 0, n + m, true, (all.drop i).take (n * sz) ++ news, rfl, by omega, Nat.le_refl _, hk, by rw [List.getElem?_append_right (by simp)]; simp, by rw [hcl]; omega, by rw [List.drop_zero, ← hcl, List.take_length, q6]⟩⟩
          refine K _ _ hnew (fun H0 h0 h => (h.set (by omega) (by simp)).snoc _ _ _) (fun b' X h hb' => ?_) (fresh _ rfl) (by simp)
          have hne : b ≠ b' := fun e' => by
            subst e'
            rw [q4] at h
            exact hb' ⟨i, n, cap, hv⟩ (by rw [← Option.some.inj h]; rfl)
          rw [List.getElem?_append_left (by simp; exact (gsI.1 h).1), List.getElem?_set_ne hne]; exact h
theorem tx_slsb {bb : Bool} {d t l h : Nat} {x : Operand} {lo hi : Option Operand} {s : ByteArray} {tk : Tok ((⟨bb, none, some d, .slice t x lo hi none⟩ : XOp) :: r) Q} (hx : fev F x = .string s) (ht : strT P t = true) (hl : loOf (fev F) lo = some l) (hh : hiOf (fev F) s.size hi = some h) (h1 : l ≤ h) (h2 : h ≤ s.size)
    (K : XWt P r Q .mk (upd F d (.string (s.extract l h))) H) : XWt P ((⟨bb, none, some d, .slice t x lo hi none⟩ : XOp) :: r) Q tk F H := by
  have hs : sop P (fev F) H (.slice t x lo hi none) = some (.string (s.extract l h), H) := by
    simp only [sop, hx, hl, hh]
    rw [if_pos ⟨ht, h1, h2⟩]
  show XW P _ F H Q
  simp only [XW, XS, hs]
  exact ⟨fun h => by simp [isStore] at h, K⟩
theorem tx_sls {d t l h : Nat} {x : Operand} {lo hi : Option Operand} {s : ByteArray} {tk : Tok (sl d t x lo hi none :: r) Q} (hx : fev F x = .string s) (ht : strT P t = true) (hl : loOf (fev F) lo = some l) (hh : hiOf (fev F) s.size hi = some h) (h1 : l ≤ h) (h2 : h ≤ s.size)
    (K : XWt P r Q .mk (upd F d (.string (s.extract l h))) H) : XWt P (sl d t x lo hi none :: r) Q tk F H := tx_slsb (bb := true) hx ht hl hh h1 h2 K
theorem tx_cvb {d s t e : Nat} {x : Operand} {xs : List Int} {tk : Tok (cv d s t x :: r) Q} (hs : P.underlying s = some (.slice e)) (he : P.underlying e = some (.int .u8)) (hd : P.underlying t = some .string) (hS : Sl H e 1 (fev F x) xs.length (xs.map (Value.int .u8)))
    (K : XWt P r Q .mk (upd F d (.string (strOfNums xs))) H) : XWt P (cv d s t x :: r) Q tk F H := by
  obtain ⟨a, cap, hv⟩ := hS.len
  have hsrc := hS.src (Nat.le_refl _)
  rw [Nat.mul_one, List.take_of_length_le (by simp)] at hsrc
  have hn : sop P (fev F) H (.convert s t x) = none := by simp only [sop, hv]
  exact tx_mx (v := .string (strOfNums xs)) (H1 := H) rfl rfl hn (fun o ho => .str ho hs he hd ⟨_, _, _, hv⟩ hsrc) (fun o ho => by simp [isF, ho, intB, hs]) (.inr (Ext.refl H)) K
end
section
variable {P : Program}
theorem XS.mono {b : Bool} {F : Fr} {H : SHeap} {K K' : Value → SHeap → Prop} (hk : ∀ v H1, K v H1 → K' v H1) {op : Op} (h : XS P b F H K op) : XS P b F H K' op := by
  have main : (match sop P (fev F) H op with
      | some (v, H1) => (isStore op = true → b = true) ∧ K v H1
      | none => mxOp op = true ∧ ∃ v H1, MQ P (fev F) H op v H1 ∧ (b = true ∨ Ext H H1) ∧ K v H1) → (match sop P (fev F) H op with
      | some (v, H1) => (isStore op = true → b = true) ∧ K' v H1
      | none => mxOp op = true ∧ ∃ v H1, MQ P (fev F) H op v H1 ∧ (b = true ∨ Ext H H1) ∧ K' v H1) := by
    cases sop P (fev F) H op with
    | some p => exact fun h => ⟨h.1, hk _ _ h.2⟩
    | none => exact fun ⟨h1, v, H1, h2, h3, h4⟩ => ⟨h1, v, H1, h2, h3, hk _ _ h4⟩
  cases op <;> try exact main h
  rename_i c
  obtain ⟨callee, args, ats⟩ := c
  cases callee with
  | value f =>
    simp only [XS] at h ⊢
    split at h
    · exact h.mono fun v H1 hh => ⟨hh.1, hk _ _ hh.2⟩
    · exact h.elim
  | invoke r m => exact main h
  | builtin b => exact main h
theorem XW.mono : ∀ {l : List XOp} {F : Fr} {H : SHeap} {Q Q' : Fr → SHeap → Prop}, (∀ F H, Q F H → Q' F H) → XW P l F H Q → XW P l F H Q'
  | [], F, H, Q, Q', hq, h => hq _ _ h
  | x :: rest, F, H, Q, Q', hq, h => by
    simp only [XW] at h ⊢
    split
    · rename_i hg
      rw [hg] at h
      exact XS.mono (fun v H1 => XW.mono hq) h
    · rename_i j w hg
      rw [hg] at h
      simp only at h
      split
      · rename_i hb
        rw [if_pos hb] at h
        exact XS.mono (fun v H1 => XW.mono hq) h
      · rename_i hb
        rw [if_neg hb] at h
        exact XW.mono hq h
theorem XL.mono : ∀ {l : List XOp} {F : Fr} {H : SHeap} {R W : List Nat} {Q Q' : Fr → SHeap → Prop}, (∀ F H, Q F H → Q' F H) → XL P l F H R W Q → XL P l F H R W Q'
  | [], F, H, R, W, Q, Q', hq, h => hq _ _ h
  | x :: rest, F, H, R, W, Q, Q', hq, h => by
    simp only [XL] at h ⊢
    split
    · rename_i hg
      rw [hg] at h
      exact LX.mono (fun v H1 R1 W1 => XL.mono hq) h
    · rename_i j w hg
      rw [hg] at h
      simp only at h
      split
      · rename_i hb
        rw [if_pos hb] at h
        exact LX.mono (fun v H1 R1 W1 => XL.mono hq) h
      · rename_i hb
        rw [if_neg hb] at h
        exact XL.mono hq h
theorem XX.mono : ∀ {x : XCode} {F : Fr} {H : SHeap} {Q Q' : SExit → Fr → SHeap → Prop}, (∀ e F H, Q e F H → Q' e F H) → XX P x F H Q → XX P x F H Q'
  | .skip, F, H, Q, Q', hq, h => hq _ _ _ h
  | .ret, F, H, Q, Q', hq, h => hq _ _ _ h
  | .exit id, F, H, Q, Q', hq, h => hq _ _ _ h
  | .seq x y, F, H, Q, Q', hq, h => XX.mono (x := x) (fun e F1 H1 h1 => by
      cases e with
      | normal => exact XX.mono (x := y) hq h1
      | exit id => exact hq _ _ _ h1
      | ret => exact hq _ _ _ h1) h
  | .cond c x y, F, H, Q, Q', hq, h => by
    simp only [XX] at h ⊢
    split
    · rename_i b hb
      rw [hb] at h
      simp only at h
      cases b with
      | true => exact XX.mono (x := x) hq h
      | false => exact XX.mono (x := y) hq h
    · rename_i hb
      split at h
      · rename_i b hb'; exact (hb b hb').elim
      · exact h
  | .block id x, F, H, Q, Q', hq, h => XX.mono (x := x) (fun e F1 H1 h1 => by
      cases e with
      | normal => exact hq _ _ _ h1
      | ret => exact hq _ _ _ h1
      | exit id' =>
        simp only [blockX] at h1 ⊢
        split
        · rename_i hi; rw [if_pos hi] at h1; exact hq _ _ _ h1
        · rename_i hi; rw [if_neg hi] at h1; exact hq _ _ _ h1) h
  | .loop x, F, H, Q, Q', hq, h => by
    simp only [XX] at h ⊢
    induction h with
    | round I hb hI ih =>
      exact .round I (XX.mono (x := x) (fun e F1 H1 h1 => by
        cases e with
        | normal => exact h1
        | exit id => exact hq _ _ _ h1
        | ret => exact hq _ _ _ h1) hb) ih
  | .ops l, F, H, Q, Q', hq, h => XW.mono (fun F1 H1 h1 => hq _ _ _ h1) h
  | .opsL l, F, H, Q, Q', hq, h => XL.mono (fun F1 H1 h1 => hq _ _ _ h1) h
def Nrm (R : Fr → SHeap → Prop) : SExit → Fr → SHeap → Prop
  | .normal, F, H => R F H
  | _, _, _ => False
@[simp] theorem Nrm_n (R : Fr → SHeap → Prop) (F : Fr) (H : SHeap) : Nrm R .normal F H = R F H := rfl
theorem XXt.cut {x : XCode} {Q : SExit → Fr → SHeap → Prop} {K : Fr → SHeap → Prop} {F : Fr} {H : SHeap} {tk : Tok x (seqX K Q)} (R : Fr → SHeap → Prop) (h1 : ∀ K' : Fr → SHeap → Prop, (∀ F1 H1, R F1 H1 → K' F1 H1) → XXt P x (Nrm K') .mk F H) (h2 : ∀ F1 H1, R F1 H1 → K F1 H1) : XXt P x (seqX K Q) tk F H :=
  XX.mono (x := x) (fun e F1 H1 h => by cases e with
    | normal => exact h2 _ _ h
    | exit id => exact h.elim
    | ret => exact h.elim) (h1 R fun _ _ h => h)
end
def Us (H : SHeap) (e : Nat) (v : Value) (l : List Nat) : Prop := Sl H e 1 v l.length (l.map fun (n : Nat) => Value.int .u32 (n : Int)) ∧ ∀ x ∈ l, x < 4294967296
theorem Us.ext {H H1 : SHeap} {e : Nat} {v : Value} {l : List Nat} (h : Us H e v l) (hx : Ext H H1) : Us H1 e v l := ⟨h.1.ext hx, h.2⟩
theorem Us.at {H : SHeap} {e : Nat} {v : Value} {l : List Nat} (h : Us H e v l) (hn : 0 < l.length) : ∃ b i cap X all, v = .slice (some ⟨b, i, none⟩) l.length cap ∧ H[b]? = some X ∧ X.cells? = some all ∧ i + l.length ≤ all.length ∧ ∀ k, k < l.length → all[i + k]? = some (.int .u32 (l[k]?.getD 0 : Nat)) := by
  obtain ⟨b, i, cap, X, all, h1, h2, h3, h4, h5⟩ := h.1.at hn
  refine ⟨b, i, cap, X, all, h1, h2, h3, by omega, fun k hk => ?_⟩
  rw [h5 k (by omega), List.getElem?_map, gtE hk]
  simp [gtE hk]
theorem Us.len {H : SHeap} {e : Nat} {v : Value} {l : List Nat} (h : Us H e v l) : ∃ a cap, v = .slice a l.length cap := h.1.len
theorem Us.lt {H : SHeap} {e : Nat} {v : Value} {l : List Nat} (h : Us H e v l) (k : Nat) : l[k]?.getD 0 < 4294967296 := by
  by_cases hk : k < l.length
  · rw [gtE hk]; exact h.2 _ (List.getElem_mem hk)
  · rw [List.getElem?_eq_none (by omega)]; decide
theorem take_last (l : List Nat) (h : 0 < l.length) : l.take (l.length - 1) ++ [l[l.length - 1]?.getD 0] = l := by
  rw [gtE (by omega), Option.getD_some, ← List.dropLast_eq_take, ← List.getLast_eq_getElem (by intro e; simp [e] at h), List.dropLast_concat_getLast]
def val : List Nat → Nat
  | [] => 0
  | x :: l => x + 4294967296 * val l
theorem val_append (a b : List Nat) : val (a ++ b) = val a + 4294967296 ^ a.length * val b := by
  induction a with
  | nil => simp [val]
  | cons x a ih => simp only [List.cons_append, val, ih, List.length_cons, Nat.pow_succ]; grind
theorem val_zeros (k : Nat) : val (List.replicate k 0) = 0 := by
  induction k with
  | zero => rfl
  | succ k ih => simp [List.replicate_succ, val, ih]
theorem val_lt {l : List Nat} (h : ∀ x ∈ l, x < 4294967296) : val l < 4294967296 ^ l.length := by
  induction l with
  | nil => simp [val]
  | cons x l ih =>
    have h1 := h x (by simp)
    have h2 := ih fun y hy => h y (by simp [hy])
    simp only [val, List.length_cons, Nat.pow_succ]
    omega
def Trim (l : List Nat) : Prop := l.getLast? ≠ some 0
theorem Trim.nil : Trim [] := by simp [Trim]
theorem Trim.le {l : List Nat} (h : Trim l) (hn : l ≠ []) : 4294967296 ^ (l.length - 1) ≤ val l := by
  have e : l = l.take (l.length - 1) ++ [l[l.length - 1]?.getD 0] := (take_last l (List.length_pos_iff.2 hn)).symm
  have h0 : l[l.length - 1]?.getD 0 ≠ 0 := fun h0 => h (by
    rw [List.getLast?_eq_getElem?]
    rw [gtE (by have := List.length_pos_iff.2 hn; omega)] at h0 ⊢
    simpa using h0)
  have hl : (l.take (l.length - 1)).length = l.length - 1 := by simp
  have : val l = val (l.take (l.length - 1)) + 4294967296 ^ (l.length - 1) * (l[l.length - 1]?.getD 0) := by
    conv => lhs; rw [e, val_append, hl]
    simp [val]
  rw [this]
  have : 4294967296 ^ (l.length - 1) * 1 ≤ 4294967296 ^ (l.length - 1) * (l[l.length - 1]?.getD 0) := Nat.mul_le_mul_left _ (by omega)
  omega
theorem Trim.zero {l : List Nat} (h : Trim l) : val l = 0 ↔ l = [] := by
  constructor
  · intro h0
    by_cases hn : l = []
    · exact hn
    · have := h.le hn
      have := Nat.pow_pos (n := l.length - 1) (show 0 < 4294967296 by decide)
      omega
  · rintro rfl; rfl
theorem Trim.lt_of_length {a b : List Nat} (hb : Trim b) (ha : ∀ x ∈ a, x < 4294967296) (h : a.length < b.length) : val a < val b := by
  have h1 := val_lt ha
  have h2 := hb.le (by intro e; simp [e] at h)
  have : 4294967296 ^ a.length ≤ 4294967296 ^ (b.length - 1) := Nat.pow_le_pow_right (by decide) (by omega)
  omega
theorem Trim.length_le {l : List Nat} (h : Trim l) {n : Nat} (hv : val l < 4294967296 ^ n) : l.length ≤ n := by
  by_cases hn : l = []
  · simp [hn]
  · have h1 := h.le hn
    have : 4294967296 ^ (l.length - 1) < 4294967296 ^ n := by omega
    have := (Nat.pow_lt_pow_iff_right (show 1 < 4294967296 by decide)).1 this
    omega
section
variable {P : Program} {r : List XOp} {F : Fr} {H : SHeap} {Q : Fr → SHeap → Prop}
theorem setAll_full : ∀ (vs cs pre : List Value), cs.length = vs.length → setAll (pre ++ cs) pre.length vs = pre ++ vs
  | [], cs, pre, h => by
    have : cs = [] := List.eq_nil_of_length_eq_zero (by simpa using h)
    simp [setAll, this]
  | v :: vs, [], pre, h => by simp at h
  | v :: vs, c :: cs, pre, h => by
    simp only [setAll]
    have h1 : (pre ++ c :: cs).set pre.length v = (pre ++ [v]) ++ cs := by
      rw [List.set_append_right _ _ (Nat.le_refl _), Nat.sub_self]
      simp
    have h2 : pre.length + 1 = (pre ++ [v]).length := by simp
    rw [h1, h2, setAll_full vs cs (pre ++ [v]) (by simpa using h)]
    simp
theorem made_len (z : Value) (n : Nat) : (made z n).length = n := by simp [made]
theorem tx_app1 {bb : Bool} {d1 d2 t ts tx e sz by_ k n : Nat} {s x : Operand} {z : Value} {cs : List Value} {tk : Tok ((⟨bb, none, some d1, .buildSlice t 1 #[(0, x)]⟩ : XOp) :: ap d2 ts tx s (T d1) :: r) Q} (hO : Ow H k e sz (fev F s) n cs) (hs1 : ∀ v, fev (upd F d1 v) s = fev F s)
    (ht : P.underlying t = some (.slice e)) (hu : P.underlying ts = some (.slice e)) (hx : srcT P tx = true) (hs : sz? P e = some sz) (hb : bytes? P e = some by_) (hz : zero? P e = some z) (hzf : flat z = true) (hzs : z.cells.size = sz) (hsz : 0 < sz) (hsz' : sz ≤ 1000)
    (hby : 0 < by_) (hfit : (n + 1) * by_ ≤ 140737488355328) (hv : (fev F x).cells.toList.length = sz) (h1c : ((fev F x).cells.toList.all (·.oneCell')) = true) (hk : k ≤ H.length)
    (K : ∀ u v' H', Ow H' k e sz v' (n + 1) (cs ++ (fev F x).cells.toList) → (∀ H0 : SHeap, H0.length ≤ k → Ext H0 H → Ext H0 H') → (∀ b X, H[b]? = some X → (inBlock (fev F s) b → X.elem? ≠ some e) → H'[b]? = some X) → XWt P r Q .mk (upd (upd F d1 u) d2 v') H') :
    XWt P ((⟨bb, none, some d1, .buildSlice t 1 #[(0, x)]⟩ : XOp) :: ap d2 ts tx s (T d1) :: r) Q tk F H := by
  have hml : (made z (1 * sz)).length = sz := by rw [made_len, Nat.one_mul]
  have ho : fillP (fun i => some (i * sz, sz)) (made z (1 * sz)) [(0, fev F x)] = some (fev F x).cells.toList := by
    simp only [fillP]
    rw [if_pos ⟨hv, by rw [hml]; omega⟩]
    have := setAll_full (fev F x).cells.toList (made z (1 * sz)) [] (by rw [hml, hv])
    simpa using this
  have hf : Instr.fill (fun i => some (i * sz, sz)) (made z (1 * sz)).toArray ((#[(0, x)] : Array (Nat × Operand)).toList.map fun p => (p.1, fev F p.2)) = some (fev F x).cells := by
    rw [fill_eq]
    simp only [List.map_cons, List.map_nil]
    rw [ho]
    simp
  have hq : ∀ o : Oper, o.op = .buildSlice t 1 #[(0, x)] → MOp P (fev F) H o (.slice (some ⟨H.length, 0, none⟩) 1 1) (H ++ [.own e false (fev F x).cells.toList]) := fun o ho' => .build (out := (fev F x).cells) ho' ht hs hz hzf hzs hsz (by omega) (by omega) hf (by have := hv; simp at this; omega)
  refine tx_mx rfl rfl rfl hq (fun o ho => by simp [isF, ho]) (.inr ((Ext.refl H).snoc _ _ _)) ?_
  show XWt P (ap d2 ts tx s (T d1) :: r) Q .mk (upd F d1 _) _
  have hsrc : Src (H ++ [.own e false (fev F x).cells.toList]) sz (.slice (some ⟨H.length, 0, none⟩) 1 1) 1 1 (fev F x).cells.toList := by
    have := Src.row (H := H ++ [.own e false (fev F x).cells.toList]) (sz := sz) (b := H.length) (i := 0) (n := 1) (m := 1) (c := 1) (x := .own e false (fev F x).cells.toList) (cs := (fev F x).cells.toList) (by simp) rfl (by omega) (Nat.le_refl _) (by omega)
    rw [List.drop_zero, Nat.one_mul, ← hv, List.take_length] at this
    rw [hv] at this
    exact this
  have hO' : Ow (H ++ [.own e false (fev F x).cells.toList]) k e sz (fev (upd F d1 (.slice (some ⟨H.length, 0, none⟩) 1 1)) s) n cs := by
    rw [hs1]
    exact hO.ext ((Ext.refl H).snoc _ _ _)
  refine tx_ap hO' (by simpa [fev, T, upd] using hsrc) hu hx hs hb hz hzs hby hfit h1c (by omega) (by simp; omega) fun v' H' h1 h2 h3 _ _ => ?_
  refine K _ v' H' h1 (fun H0 h0 hx0 => h2 H0 h0 (hx0.snoc _ _ _)) (fun b X hX hb => h3 b X ?_ (by rw [hs1]; exact hb))
  rw [List.getElem?_append_left (gsI.1 hX).1]
  exact hX
end
def ov (φ : Nat → Option SObj) (H : SHeap) : SHeap := H.mapIdx fun b x => (φ b).getD x
def Fit (φ : Nat → Option SObj) (H : SHeap) : Prop := ∀ b x, φ b = some x → H[b]? = some .dead ∧ ∃ e l cs, x = .own e l cs
section
variable {φ : Nat → Option SObj} {H : SHeap}
theorem ov_len (φ : Nat → Option SObj) (H : SHeap) : (ov φ H).length = H.length := by simp [ov]
theorem ov_at (φ : Nat → Option SObj) (H : SHeap) (b : Nat) : (ov φ H)[b]? = (H[b]?).map fun x => (φ b).getD x := by simp [ov]
theorem Fit.none_of {X : SObj} {b : Nat} (h : Fit φ H) (hX : H[b]? = some X) (hd : X ≠ .dead) : φ b = none := by
  cases hp : φ b with
  | none => rfl
  | some x => have := (h b x hp).1; rw [hX] at this; exact absurd (Option.some.inj this) hd
theorem Fit.none_cells {X : SObj} {cs : List Value} {b : Nat} (h : Fit φ H) (hX : H[b]? = some X) (hc : X.cells? = some cs) : φ b = none := h.none_of hX (by rintro rfl; simp [SObj.cells?] at hc)
theorem Fit.none_elem {X : SObj} {e : TypeId} {b : Nat} (h : Fit φ H) (hX : H[b]? = some X) (hc : X.elem? = some e) : φ b = none := h.none_of hX (by rintro rfl; simp [SObj.elem?] at hc)
theorem Fit.none_own {e : TypeId} {l : Bool} {cs : List Value} {b : Nat} (h : Fit φ H) (hX : H[b]? = some (.own e l cs)) : φ b = none := h.none_of hX (by simp)
theorem ov_get_none {b : Nat} (hp : φ b = none) : (ov φ H)[b]? = H[b]? := by rw [ov_at, hp]; cases H[b]? <;> rfl
theorem Fit.get {X : SObj} {b : Nat} (h : Fit φ H) (hX : H[b]? = some X) (hd : X ≠ .dead) : (ov φ H)[b]? = some X := by rw [ov_get_none (h.none_of hX hd)]; exact hX
theorem Fit.getc {X : SObj} {cs : List Value} {b : Nat} (h : Fit φ H) (hX : H[b]? = some X) (hc : X.cells? = some cs) : (ov φ H)[b]? = some X := by rw [ov_get_none (h.none_cells hX hc)]; exact hX
theorem Fit.lt {b : Nat} {x : SObj} (h : Fit φ H) (hp : φ b = some x) : b < H.length := (gsI.1 (h b x hp).1).1
theorem Fit.app (h : Fit φ H) (N : SHeap) : Fit φ (H ++ N) ∧ ov φ (H ++ N) = ov φ H ++ N := by
  refine ⟨fun b x hp => ?_, ?_⟩
  · rw [List.getElem?_append_left (h.lt hp)]; exact h b x hp
  · apply List.ext_getElem?
    intro b
    rw [ov_at]
    by_cases hb : b < H.length
    · rw [List.getElem?_append_left hb, List.getElem?_append_left (by rw [ov_len]; exact hb), ov_at]
    · have hp : φ b = none := by
        cases hp : φ b with
        | none => rfl
        | some x => exact absurd (h.lt hp) hb
      rw [List.getElem?_append_right (by omega), List.getElem?_append_right (by rw [ov_len]; omega), ov_len, hp]
      cases N[b - H.length]? <;> rfl
theorem Fit.set {b : Nat} (h : Fit φ H) (hp : φ b = none) (x : SObj) : Fit φ (H.set b x) ∧ ov φ (H.set b x) = (ov φ H).set b x := by
  refine ⟨fun c y hc => ?_, ?_⟩
  · have : b ≠ c := fun e => by rw [e, hc] at hp; cases hp
    rw [List.getElem?_set_ne this]; exact h c y hc
  · apply List.ext_getElem?
    intro c
    rw [ov_at]
    by_cases hbc : b = c
    · subst hbc
      rw [hp]
      by_cases hl : b < H.length
      · rw [List.getElem?_set_self hl, List.getElem?_set_self (by rw [ov_len]; exact hl)]; rfl
      · rw [List.getElem?_eq_none (by simp; omega), List.getElem?_eq_none (by simp [ov_len]; omega)]; rfl
    · rw [List.getElem?_set_ne hbc, List.getElem?_set_ne hbc, ov_at]
theorem src_ov {sz m n : Nat} {v : Value} {news : List Value} (hf : Fit φ H) (h : Src H sz v m n news) : Src (ov φ H) sz v m n news := by
  cases h with
  | zeroS => exact .zeroS
  | row hx hc hn hm hfit => exact .row (hf.getc hx hc) hc hn hm hfit
  | str h1 => exact .str h1
theorem ext_ov {H1 : SHeap} (hf : Fit φ H) (h : Ext H H1) : Ext (ov φ H) (ov φ H1) := by
  obtain ⟨N, rfl, hn⟩ := h
  exact ⟨N, (hf.app N).2, hn⟩
theorem mop_ov {P : Program} {ρ : Operand → Value} {o : Oper} {v : Value} {H1 : SHeap} (hf : Fit φ H) (h : MOp P ρ H o v H1) : MOp P ρ (ov φ H) o v (ov φ H1) ∧ Fit φ H1 := by
  have ap : ∀ X : SObj, Fit φ (H ++ [X]) ∧ ov φ (H ++ [X]) = ov φ H ++ [X] := fun X => hf.app [X]
  have hl := ov_len φ H
  cases h with
  | ofPure hs hfl hv h => exact ⟨.ofPure hs hfl hv h, hf⟩
  | alloc h hz hzf hs => refine ⟨?_, (ap _).1⟩; rw [(ap _).2, ← hl]; exact .alloc h hz hzf hs
  | box h hs => refine ⟨?_, (ap _).1⟩; rw [(ap _).2, ← hl]; exact .box h hs
  | load1 h ha hx hX hc hv => exact ⟨.load1 h ha hx (hf.getc hX hc) hc hv, hf⟩
  | loadA h ha hs hx hX hc hfit => exact ⟨.loadA h ha hs hx (hf.getc hX hc) hc hfit, hf⟩
  | store h hs hx hX hfit h1 => obtain ⟨q1, q2⟩ := hf.set (hf.none_own hX) (.own _ _ _); refine ⟨?_, q1⟩; rw [q2]; exact .store h hs hx (hf.get hX (by simp)) hfit h1
  | slice h hu hs hx hX he hl hh' h1 h2 hlt => exact ⟨.slice h hu hs hx (by rw [ov_get_none (hf.none_elem hX he)]; exact hX) he hl hh' h1 h2 hlt, hf⟩
  | sliceEnd h hu hs hx hcap hl hh' => exact ⟨.sliceEnd h hu hs hx hcap hl hh', hf⟩
  | sliceZero h hu hs hx hl hh' => exact ⟨.sliceZero h hu hs hx hl hh', hf⟩
  | slice3v h hu hs hx hl hh' hm h3 => exact ⟨.slice3v h hu hs hx hl hh' hm h3, hf⟩
  | slice3n h hu hs hx hl hh' hm => exact ⟨.slice3n h hu hs hx hl hh' hm, hf⟩
  | make h hu hs hb hz hzf hzs hx hy hsz hby hlc hc hfit => refine ⟨?_, (ap _).1⟩; rw [(ap _).2, ← hl]; exact .make h hu hs hb hz hzf hzs hx hy hsz hby hlc hc hfit
  | make0 h hu hs hb hx hy => exact ⟨.make0 h hu hs hb hx hy, hf⟩
  | build h hu hs hz hzf hzs hsz hl' hfit hff hos => refine ⟨?_, (ap _).1⟩; rw [(ap _).2, ← hl]; exact .build h hu hs hz hzf hzs hsz hl' hfit hff hos
  | build0 h hu hs => exact ⟨.build0 h hu hs, hf⟩
  | app0 h hu hx hs hsrc hv => exact ⟨.app0 h hu hx hs (src_ov hf hsrc) hv, hf⟩
  | appNew h hu hx hs hb hz hzs hsrc hn hby hfit ha hv => refine ⟨?_, (ap _).1⟩; rw [(ap _).2, ← hl]; exact .appNew h hu hx hs hb hz hzs (src_ov hf hsrc) hn hby hfit ha hv
  | appIn h hu hx hs hsrc hroom hc hX hfit h1c hv => obtain ⟨q1, q2⟩ := hf.set (hf.none_own hX) (.own _ _ _); refine ⟨?_, q1⟩; rw [q2]; exact .appIn h hu hx hs (src_ov hf hsrc) hroom hc (hf.get hX (by simp)) hfit h1c hv
  | appGrow h hu hx hs hb hz hzs hsrc hn hby hfit hX hfo hroom hc hv => refine ⟨?_, (ap _).1⟩; rw [(ap _).2, ← hl]; exact .appGrow h hu hx hs hb hz hzs (src_ov hf hsrc) hn hby hfit (hf.get hX (by simp)) hfo hroom hc hv
  | appMove h hu hx hs hb hz hzs hsrc hn hby hfit hX hfo hroom hc h1c hv =>
    obtain ⟨q1, q2⟩ := hf.set (hf.none_own hX) .dead
    obtain ⟨q3, q4⟩ := q1.app [.own _ true _]
    refine ⟨?_, q3⟩
    rw [q4, q2, ← hl]
    exact .appMove h hu hx hs hb hz hzs (src_ov hf hsrc) hn hby hfit (hf.get hX (by simp)) hfo hroom hc h1c hv
  | copy h hu hs hsrc hn hn0 hX hfit h1c hv => obtain ⟨q1, q2⟩ := hf.set (hf.none_own hX) (.own _ _ _); refine ⟨?_, q1⟩; rw [q2]; exact .copy h hu hs (src_ov hf hsrc) hn hn0 (hf.get hX (by simp)) hfit h1c hv
  | copy0 h hu hs hsrc hn hv => exact ⟨.copy0 h hu hs (src_ov hf hsrc) hn hv, hf⟩
  | str h hs he hd hsl hsrc => exact ⟨.str h hs he hd hsl (src_ov hf hsrc), hf⟩
theorem rvs_ov {P : Program} {t : List Value} {rs : List ResultVar} {vs : List Value} (hf : Fit φ H) (h : RVs P t H rs vs) : RVs P t (ov φ H) rs vs := by
  induction h with
  | nil => exact .nil
  | tmp hs ih => exact .tmp ih
  | cell1 ha hx hX hc hv hs ih => exact .cell1 ha hx (hf.getc hX hc) hc hv ih
  | cellA ha hn hx hX hc hfit hs ih => exact .cellA ha hn hx (hf.getc hX hc) hc hfit ih
def Job.heap : Job → SHeap
  | .code _ _ H => H
  | .op _ _ _ H => H
  | .call _ _ H => H
def Out.heap : Out → SHeap
  | .code _ _ H => H
  | .val _ H => H
def jov (φ : Nat → Option SObj) : Job → Job
  | .code c t H => .code c t (ov φ H)
  | .op ops o t H => .op ops o t (ov φ H)
  | .call f args H => .call f args (ov φ H)
def oov (φ : Nat → Option SObj) : Out → Out
  | .code e t H => .code e t (ov φ H)
  | .val v H => .val v (ov φ H)
theorem late_ov {P : Program} {ops : Array Oper} {o : Oper} {t : List Value} {H1 : SHeap} {v : Value} {g : Option (Nat × Option SObj)} (hf : Fit φ H) (h : LateOk P ops o t H v H1 g) : LateOk P ops o t (ov φ H) v (ov φ H1) g ∧ Fit φ H1 := by
  cases g with
  | none => obtain ⟨h1, rfl⟩ := h; exact ⟨⟨h1, rfl⟩, hf⟩
  | some by_ =>
    obtain ⟨b, y⟩ := by_
    obtain ⟨h1, h2, h3, h4, h5, h6⟩ := h
    have hp : φ b = none := hf.none_of (gtE h3) (by rw [gtE h3] at h4; exact fun e => h4 (by rw [e]))
    have he := ov_get_none (H := H) hp
    cases y with
    | none =>
      simp only [lateH] at h5
      subst h5
      exact ⟨⟨h1, h2, by rw [ov_len]; exact h3, by rw [he]; exact h4, rfl, fun H' hH' => h6 H' (by rw [hH', he])⟩, hf⟩
    | some x =>
      simp only [lateH] at h5
      subst h5
      obtain ⟨q1, q2⟩ := hf.set hp x
      exact ⟨⟨h1, h2, by rw [ov_len]; exact h3, by rw [he]; exact h4, q2, fun H' hH' => h6 H' (by rw [hH', he])⟩, q1⟩
theorem run_ov {P : Program} {j : Job} {o : Out} (h : Run P j o) : Fit φ j.heap → Run P (jov φ j) (oov φ o) ∧ Fit φ o.heap := by
  induction h with
  | skip => exact fun hf => ⟨.skip, hf⟩
  | ret => exact fun hf => ⟨.ret, hf⟩
  | exit => exact fun hf => ⟨.exit, hf⟩
  | seqN h1 h2 ih1 ih2 => exact fun hf => let ⟨r1, f1⟩ := ih1 hf; let ⟨r2, f2⟩ := ih2 f1; ⟨.seqN r1 r2, f2⟩
  | seqE h1 he ih1 => exact fun hf => let ⟨r1, f1⟩ := ih1 hf; ⟨.seqE r1 he, f1⟩
  | cond hc hk h ih => exact fun hf => let ⟨r1, f1⟩ := ih hf; ⟨.cond hc hk r1, f1⟩
  | block h ih => exact fun hf => let ⟨r1, f1⟩ := ih hf; ⟨.block r1, f1⟩
  | loopN h1 h2 ih1 ih2 => exact fun hf => let ⟨r1, f1⟩ := ih1 hf; let ⟨r2, f2⟩ := ih2 f1; ⟨.loopN r1 r2, f2⟩
  | loopE h1 he ih1 => exact fun hf => let ⟨r1, f1⟩ := ih1 hf; ⟨.loopE r1 he, f1⟩
  | region T V Hs hk h hT hd ih =>
    rename_i id ops draw
    intro hf
    have hfs : ∀ i, i ≤ ops.size → Fit φ (Hs i) := by
      intro i
      induction i with
      | zero => exact fun _ => hf
      | succ i ihi => exact fun hi => (ih i _ (Array.getElem?_eq_getElem (show i < ops.size by omega)) (ihi (by omega))).2
    have lt : ∀ {i : Nat} {o : Oper}, ops[i]? = some o → i ≤ ops.size := fun ho => Nat.le_of_lt (Array.getElem?_eq_some_iff.1 ho).1
    exact ⟨.region T V (fun i => ov φ (Hs i)) hk (fun i o ho => (ih i o ho (hfs i (lt ho))).1) hT (fun hdr => ⟨(hd hdr).1, fun i o ho hF => ((hd hdr).2 i o ho hF).imp (fun x => x) fun he => ext_ov (hfs i (lt ho)) he⟩), hfs _ (Nat.le_refl _)⟩
  | regionL T V Hs tg hk h hT hchk hl hd htg ih =>
    rename_i id ops draw
    intro hf
    have hfs : ∀ i, i ≤ ops.size → Fit φ (Hs i) := by
      intro i
      induction i with
      | zero => exact fun _ => hf
      | succ i ihi => exact fun hi => (ih i _ (Array.getElem?_eq_getElem (show i < ops.size by omega)) (ihi (by omega))).2
    have lt : ∀ {i : Nat} {o : Oper}, ops[i]? = some o → i ≤ ops.size := fun ho => Nat.le_of_lt (Array.getElem?_eq_some_iff.1 ho).1
    exact ⟨.regionL T V (fun i => ov φ (Hs i)) tg hk (fun i o ho => (ih i o ho (hfs i (lt ho))).1) hT hchk (fun i o ho => (late_ov (hfs i (lt ho)) (hl i o ho)).1) hd htg, hfs _ (Nat.le_refl _)⟩
  | opSkip hw => exact fun hf => ⟨.opSkip hw, hf⟩
  | opF hw hF h => exact fun hf => ⟨.opF hw hF h, hf⟩
  | opM hw hF h => exact fun hf => let ⟨q1, q2⟩ := mop_ov hf h; ⟨.opM hw hF q1, q2⟩
  | opC hw hF ho hf' hg hn hb h ih => exact fun hf => let ⟨r1, f1⟩ := ih hf; ⟨.opC hw hF ho hf' hg hn hb r1, f1⟩
  | call hf' hb h he hr ih => exact fun hf => let ⟨r1, f1⟩ := ih hf; ⟨.call hf' hb r1 he (rvs_ov f1 hr), f1⟩
  | callK h ho ih =>
    intro hf
    obtain ⟨r1, f1⟩ := ih hf
    obtain ⟨e, l, cs, hx⟩ := ho
    obtain ⟨q1, q2⟩ := f1.set (f1.none_own hx) .dead
    refine ⟨?_, q1⟩
    show Run P _ (.val _ (ov φ (List.set _ _ .dead)))
    simp only [Out.heap] at q2
    rw [q2]
    exact .callK r1 ⟨e, l, cs, f1.get hx (by simp)⟩
theorem SW.ovr {P : Program} {f : FuncId} {args : List Value} {Q : Value → SHeap → Prop} (hf : Fit φ H) (h : SW P f args H Q) : SW P f args (ov φ H) fun v H1 => ∃ H', H1 = ov φ H' ∧ Fit φ H' ∧ Q v H' := by
  obtain ⟨v, H1, ⟨hc, hr⟩ | ⟨ha, rfl⟩, hq⟩ := h
  · obtain ⟨r1, f1⟩ := run_ov hr (φ := φ) hf
    exact ⟨v, _, .inl ⟨hc, r1⟩, H1, rfl, f1, hq⟩
  · exact ⟨v, _, .inr ⟨ha, rfl⟩, H1, rfl, hf, hq⟩
theorem cellsAt_ov {b : Nat} {cs : List Value} (hf : Fit φ H) (h : cellsAt H b = some cs) : cellsAt (ov φ H) b = some cs := by
  obtain ⟨X, hX, hc⟩ := cellsAt_spec h
  unfold cellsAt
  rw [hf.getc hX hc]
  exact hc
theorem sop_ov {P : Program} {ρ : Operand → Value} {op : Op} {v : Value} {H1 : SHeap} (hf : Fit φ H) (h : sop P ρ H op = some (v, H1)) : sop P ρ (ov φ H) op = some (v, ov φ H1) ∧ Fit φ H1 := by
  cases op <;> simp only [sop] at h ⊢ <;> try (first | (simp at h; done) | (cases h; done))
  case move => simp at h; obtain ⟨rfl, rfl⟩ := h; exact ⟨rfl, hf⟩
  case assign => simp at h; obtain ⟨rfl, rfl⟩ := h; exact ⟨rfl, hf⟩
  case pick => split at h <;> simp at h; obtain ⟨rfl, rfl⟩ := h; exact ⟨rfl, hf⟩
  case alloc =>
    split at h
    · split at h
      · rename_i hc
        simp at h; obtain ⟨rfl, rfl⟩ := h
        rw [if_pos hc, ov_len, (hf.app _).2]
        exact ⟨rfl, (hf.app _).1⟩
      · cases h
    · cases h
  case box =>
    split at h
    · rename_i hc
      simp at h; obtain ⟨rfl, rfl⟩ := h
      rw [if_pos hc, ov_len, (hf.app _).2]
      exact ⟨rfl, (hf.app _).1⟩
    · cases h
  case load ty x =>
    split at h
    · rename_i b i hx
      cases hcs : cellsAt H b with
      | none => rw [hcs] at h; cases h
      | some cs =>
        rw [hcs] at h
        rw [cellsAt_ov hf hcs]
        revert h
        simp only
        cases aggB P ty with
        | none => simp
        | some g =>
          cases g with
          | false => simp only; cases cs[i]? <;> simp only [Option.map_none, Option.map_some, Option.some.injEq, Prod.mk.injEq, reduceCtorEq, false_implies, and_imp]; try (rintro rfl rfl; exact ⟨⟨rfl, rfl⟩, hf⟩)
          | true =>
            simp only
            cases sz? P ty with
            | none => simp
            | some n =>
              simp only
              split
              · simp only [Option.map_none, Option.map_some, Option.some.injEq, Prod.mk.injEq, reduceCtorEq, false_implies, and_imp]; try (rintro rfl rfl; exact ⟨⟨rfl, rfl⟩, hf⟩)
              · simp
    · cases h
  case store ty x y =>
    split at h
    · rename_i b i hx
      split at h
      · rename_i e l cs hX
        split at h
        · rename_i hc
          simp at h; obtain ⟨rfl, rfl⟩ := h
          obtain ⟨q1, q2⟩ := hf.set (hf.none_own hX) (.own e l (spl cs i (ρ y).cells.toList))
          rw [hf.get hX (by simp)]
          simp only
          rw [if_pos hc, q2]
          exact ⟨rfl, q1⟩
        · cases h
      · cases h
    · cases h
  case nilCheck => split at h <;> simp at h; obtain ⟨rfl, rfl⟩ := h; exact ⟨rfl, hf⟩
  case binOp => obtain ⟨u, hu, he⟩ := Option.map_eq_some_iff.1 h; simp at he; obtain ⟨rfl, rfl⟩ := he; rw [hu]; exact ⟨rfl, hf⟩
  case unOp => obtain ⟨u, hu, he⟩ := Option.map_eq_some_iff.1 h; simp at he; obtain ⟨rfl, rfl⟩ := he; rw [hu]; exact ⟨rfl, hf⟩
  case convert =>
    split at h
    · split at h <;> simp at h; obtain ⟨rfl, rfl⟩ := h; exact ⟨rfl, hf⟩
    · split at h
      · rename_i hc; simp at h; obtain ⟨rfl, rfl⟩ := h; rw [if_pos hc]; exact ⟨rfl, hf⟩
      · cases h
    · cases h
  case makeInterface =>
    split at h
    · rename_i hc; simp at h; obtain ⟨rfl, rfl⟩ := h; rw [if_pos hc]; exact ⟨rfl, hf⟩
    · cases h
  case makeFunc => simp at h; obtain ⟨rfl, rfl⟩ := h; exact ⟨rfl, hf⟩
  case fieldAddr =>
    split at h
    · obtain ⟨u, hu, he⟩ := Option.map_eq_some_iff.1 h; simp at he; obtain ⟨rfl, rfl⟩ := he; rw [hu]; exact ⟨rfl, hf⟩
    · cases h
  case field =>
    split at h
    · split at h
      · obtain ⟨u, hu, he⟩ := Option.map_eq_some_iff.1 h; simp at he; obtain ⟨rfl, rfl⟩ := he; simp only [hu]; exact ⟨rfl, hf⟩
      · cases h
    · cases h
  case indexAddr =>
    split at h
    · split at h
      · split at h
        · split at h
          · rename_i hc; simp at h; obtain ⟨rfl, rfl⟩ := h; rw [if_pos hc]; exact ⟨rfl, hf⟩
          · cases h
        · cases h
      · cases h
    · cases h
  case index =>
    split at h
    · split at h
      · rename_i hc; simp only [Option.some.injEq, Prod.mk.injEq] at h; obtain ⟨rfl, rfl⟩ := h; rw [if_pos hc]; exact ⟨rfl, hf⟩
      · cases h
    · cases h
  case extract =>
    split at h
    · obtain ⟨u, hu, he⟩ := Option.map_eq_some_iff.1 h; simp at he; obtain ⟨rfl, rfl⟩ := he; rw [hu]; exact ⟨rfl, hf⟩
    · cases h
  case build =>
    split at h
    · split at h
      · rename_i hc; obtain ⟨u, hu, he⟩ := Option.map_eq_some_iff.1 h; simp at he; obtain ⟨rfl, rfl⟩ := he; rw [if_pos hc, hu]; exact ⟨rfl, hf⟩
      · cases h
    · cases h
  case call c =>
    unfold sbuiltin at h ⊢
    split at h
    · split at h
      · split at h
        · simp at h; obtain ⟨rfl, rfl⟩ := h; exact ⟨rfl, hf⟩
        · cases h
      · split at h
        · rename_i hc; simp at h; obtain ⟨rfl, rfl⟩ := h; rw [if_pos hc]; exact ⟨rfl, hf⟩
        · cases h
      · cases h
    · split at h <;> simp at h; obtain ⟨rfl, rfl⟩ := h; exact ⟨rfl, hf⟩
    · split at h <;> simp at h; obtain ⟨rfl, rfl⟩ := h; exact ⟨rfl, hf⟩
    · cases h
  case slice ty x lo hi mx =>
    cases mx with
    | some m => simp at h
    | none =>
      simp only at h ⊢
      split at h
      · split at h
        · split at h
          · rename_i hc; simp at h; obtain ⟨rfl, rfl⟩ := h; rw [if_pos hc]; exact ⟨rfl, hf⟩
          · cases h
        · cases h
      · cases h
theorem sop_none {P : Program} {ρ : Operand → Value} {op : Op} (H H' : SHeap) (hm : mxOp op = true) (h : sop P ρ H op = none) : sop P ρ H' op = none := by
  cases hs : sop P ρ H' op with
  | none => rfl
  | some p =>
    obtain ⟨v, H1⟩ := p
    cases op <;> simp [mxOp] at hm <;> simp only [sop] at h hs <;> try (first | (simp at hs; done) | (cases hs; done))
    case convert src dst x =>
      cases hx : ρ x with
      | int k n => rw [hx] at h hs; simp only at h hs; revert h hs; cases intT P src <;> cases intT P dst <;> simp
      | string t => rw [hx] at h hs; simp only at h hs; revert h hs; split <;> simp
      | _ => rw [hx] at hs; simp at hs
    case call c =>
      obtain ⟨callee, args, ats⟩ := c
      unfold sbuiltin at h hs
      cases callee with
      | builtin b => cases b <;> simp at hm <;> simp at hs
      | _ => simp at hm
    case slice ty x lo hi mx =>
      cases mx with
      | some m => simp at hs
      | none =>
        simp only at h hs
        split at hs
        · split at hs
          · split at hs <;> simp_all
          · cases hs
        · cases hs
theorem XS.ovr {P : Program} {b : Bool} {F : Fr} {K : Value → SHeap → Prop} {op : Op} (hf : Fit φ H) (h : XS P b F H K op) : XS P b F (ov φ H) (fun v H1 => ∃ H', H1 = ov φ H' ∧ Fit φ H' ∧ K v H') op := by
  have main : (match sop P (fev F) H op with
      | some (v, H1) => (isStore op = true → b = true) ∧ K v H1
      | none => mxOp op = true ∧ ∃ v H1, MQ P (fev F) H op v H1 ∧ (b = true ∨ Ext H H1) ∧ K v H1) → (match sop P (fev F) (ov φ H) op with
      | some (v, H1) => (isStore op = true → b = true) ∧ ∃ H', H1 = ov φ H' ∧ Fit φ H' ∧ K v H'
      | none => mxOp op = true ∧ ∃ v H1, MQ P (fev F) (ov φ H) op v H1 ∧ (b = true ∨ Ext (ov φ H) H1) ∧ ∃ H', H1 = ov φ H' ∧ Fit φ H' ∧ K v H') := by
    cases hs : sop P (fev F) H op with
    | some p =>
      obtain ⟨v, H1⟩ := p
      obtain ⟨q1, q2⟩ := sop_ov hf hs
      rw [q1]
      exact fun h => ⟨h.1, H1, rfl, q2, h.2⟩
    | none =>
      intro ⟨h1, v, H1, h2, h3, h4⟩
      rw [sop_none H _ h1 hs]
      have hm := fun o ho => mop_ov hf (h2 o ho).2
      have h0 := hm ⟨none, op, default, default, #[], none⟩ rfl
      exact ⟨h1, v, ov φ H1, fun o ho => ⟨(h2 o ho).1, (hm o ho).1⟩, h3.imp (fun x => x) fun he => ext_ov hf he, H1, rfl, h0.2, h4⟩
  cases op <;> try exact main h
  rename_i c
  obtain ⟨callee, args, ats⟩ := c
  cases callee with
  | value f =>
    simp only [XS] at h ⊢
    split at h
    · rename_i g first cap hfv
      exact (SW.ovr hf h).mono fun v H1 ⟨H', e, h1, h2⟩ => ⟨h2.1.imp (fun x => x) fun he => by rw [e]; exact ext_ov hf he, H', e, h1, h2.2⟩
    · exact h.elim
  | invoke r m => exact main h
  | builtin b => exact main h
theorem XW.ovr {P : Program} : ∀ {l : List XOp} {F : Fr} {H : SHeap} {Q : Fr → SHeap → Prop}, Fit φ H → XW P l F H Q → XW P l F (ov φ H) fun F1 H1 => ∃ H', H1 = ov φ H' ∧ Fit φ H' ∧ Q F1 H'
  | [], F, H, Q, hf, h => ⟨H, rfl, hf, h⟩
  | x :: rest, F, H, Q, hf, h => by
    simp only [XW] at h ⊢
    split
    · rename_i hg
      rw [hg] at h
      exact XS.mono (fun v H1 ⟨H', e, h1, h2⟩ => by rw [e]; exact XW.ovr h1 h2) (XS.ovr hf h)
    · rename_i j w hg
      rw [hg] at h
      simp only at h
      split
      · rename_i hb
        rw [if_pos hb] at h
        exact XS.mono (fun v H1 ⟨H', e, h1, h2⟩ => by rw [e]; exact XW.ovr h1 h2) (XS.ovr hf h)
      · rename_i hb
        rw [if_neg hb] at h
        exact XW.ovr hf h
end
end Go.Sx
end
