/- Part of the proof of ShopPlans. -/
import Derived.Test.YtoiodfcefbapkaaGreatRows
import Derived.WalkKit
import Derived.ProofKit
import Derived.OpenShut
import Derived.ShutString
import Derived.ChangeOld
import Derived.Below
import Derived.Deep.Slices
import Derived.Orders
import Derived.Deep.LoopGhost
import Derived.Laws.BytesArg
import Derived.Test.YtoiodfcefbapkaaGreatProg
import Derived.Laws.Strings
set_option linter.unusedVariables false
set_option linter.unusedSimpArgs false
section
namespace Go.Sx
theorem gtE {α : Type} {l : List α} {i : Nat} (h : i < l.length) : l[i]? = some l[i] := List.getElem?_eq_getElem h
theorem gsI {α : Type} {l : List α} {i : Nat} {a : α} : l[i]? = some a ↔ ∃ h : i < l.length, l[i] = a := List.getElem?_eq_some_iff
def pureRun (P : Program) {α : Type} : Sem α → Option α
  | .pure a => some a
  | .program k => pureRun P (k P)
  | .mark _ k => pureRun P k
  | _ => none
theorem pureRun_run {P : Program} {α : Type} (s : Sem α) (a : α) (h : pureRun P s = some a) (w : World) : s.run P w = .ok a w := by
  induction s with
  | pure x => simp [pureRun] at h; subst h; rfl
  | program k ih => simp only [pureRun] at h; simp only [Sem.run]; exact ih P h
  | mark m k ih => simp only [pureRun] at h; simp only [Sem.run]; exact ih h
  | _ => simp [pureRun] at h
def flat1 : Value → Bool
  | .bool _ | .int _ _ | .string _ | .float _ _ | .pointer none | .slice none 0 0 | .nilFunc | .nilIface | .map none => true
  | _ => false
def flat (v : Value) : Bool := flat1 v || match v with
  | .agg cs => cs.all flat1
  | .tuple cs => cs.all flat1
  | .func (.func _) a b => a.all flat1 && b.all flat1
  | _ => false
inductive SObj where
  | own (e : TypeId) (loose : Bool) (cs : List Value)
  | ro (e : TypeId) (cs : List Value)
  | dead
abbrev SHeap := List SObj
def SObj.cells? : SObj → Option (List Value)
  | .own _ _ cs => some cs
  | .ro _ cs => some cs
  | .dead => none
def IsOwn (H : SHeap) (b : Nat) : Prop := ∃ e l cs, H[b]? = some (.own e l cs)
def IsLive (H : SHeap) (b : Nat) : Prop := ∃ x cs, H[b]? = some x ∧ x.cells? = some cs
theorem IsOwn.live {H : SHeap} {b : Nat} (h : IsOwn H b) : IsLive H b := by
  obtain ⟨e, l, cs, h⟩ := h
  exact ⟨_, cs, h, rfl⟩
structure Bk where
  g : Nat
  o : Nat
  N : Nat
  sz : Nat
  loose : Bool
abbrev Mu := Nat → Option Bk
inductive VR (μ : Mu) : Value → Value → Prop
  | bool (b : Bool) : VR μ (.bool b) (.bool b)
  | int (k : IntKind) (n : Int) : VR μ (.int k n) (.int k n)
  | float (k : FloatKind) (n : Nat) : VR μ (.float k n) (.float k n)
  | str (s : ByteArray) : VR μ (.string s) (.string s)
  | nilp : VR μ (.pointer none) (.pointer none)
  | ptr {b i : Nat} {k : Bk} (h : μ b = some k) : VR μ (.pointer (some ⟨b, i, none⟩)) (.pointer (some ⟨k.g, k.o + i, none⟩))
  | glob (g : Nat) : VR μ (.pointer (some ⟨0, g, some 0⟩)) (.pointer (some ⟨g, 0, none⟩))
  | nils : VR μ (.slice none 0 0) (.slice none 0 0)
  | void (i : Nat) (a : Addr) : VR μ (.slice (some ⟨0, i, none⟩) 0 0) (.slice (some a) 0 0)
  | empty {b i : Nat} (hb : b ≠ 0) (a : Addr) (c : Nat) : VR μ (.slice (some ⟨b, i, none⟩) 0 0) (.slice (some a) 0 c)
  | slice {b i : Nat} {k : Bk} {len cap cap' : Nat} (h : μ b = some k) (hc : 0 < cap) (hl : len ≤ cap) (hcc : cap ≤ cap') (hx : k.loose = false → cap' = cap)
      (hN : k.loose = true → k.o + i + cap' * k.sz ≤ k.N) : VR μ (.slice (some ⟨b, i, none⟩) len cap) (.slice (some ⟨k.g, k.o + i, none⟩) len cap')
  | agg {xs ys : Array Value} (hl : xs.size = ys.size) (h : ∀ (i : Nat) (v v' : Value), xs[i]? = some v → ys[i]? = some v' → VR μ v v') : VR μ (.agg xs) (.agg ys)
  | tuple {xs ys : Array Value} (hl : xs.size = ys.size) (h : ∀ (i : Nat) (v v' : Value), xs[i]? = some v → ys[i]? = some v' → VR μ v v') : VR μ (.tuple xs) (.tuple ys)
  | func (fn : Fn) {xs ys xs' ys' : Array Value} (hl : xs.size = ys.size) (h : ∀ (i : Nat) (v v' : Value), xs[i]? = some v → ys[i]? = some v' → VR μ v v')
      (hl' : xs'.size = ys'.size) (h' : ∀ (i : Nat) (v v' : Value), xs'[i]? = some v → ys'[i]? = some v' → VR μ v v') : VR μ (.func fn xs xs') (.func fn ys ys')
  | nilFunc : VR μ .nilFunc .nilFunc
  | iface (t : TypeId) {v v' : Value} (h : VR μ v v') : VR μ (.iface t v) (.iface t v')
  | nilIface : VR μ .nilIface .nilIface
  | nilMap : VR μ (.map none) (.map none)
def AR (μ : Mu) (xs ys : Array Value) : Prop := xs.size = ys.size ∧ ∀ (i : Nat) (v v' : Value), xs[i]? = some v → ys[i]? = some v' → VR μ v v'
def LR (μ : Mu) (xs ys : List Value) : Prop := xs.length = ys.length ∧ ∀ (i : Nat) (v v' : Value), xs[i]? = some v → ys[i]? = some v' → VR μ v v'
theorem VR.ext {μ μ1 : Mu} (he : ∀ b k, μ b = some k → μ1 b = some k) {v v' : Value} (h : VR μ v v') : VR μ1 v v' := by
  induction h with
  | bool b => exact .bool b
  | int k n => exact .int k n
  | float k n => exact .float k n
  | str s => exact .str s
  | nilp => exact .nilp
  | ptr h => exact .ptr (he _ _ h)
  | glob g => exact .glob g
  | nils => exact .nils
  | void i a => exact .void i a
  | empty hb a c => exact .empty hb a c
  | slice h hc hl hcc hx hN => exact .slice (he _ _ h) hc hl hcc hx hN
  | agg hl _ ih => exact .agg hl ih
  | tuple hl _ ih => exact .tuple hl ih
  | func fn hl _ hl' _ ih ih' => exact .func fn hl ih hl' ih'
  | nilFunc => exact .nilFunc
  | iface t _ ih => exact .iface t ih
  | nilIface => exact .nilIface
  | nilMap => exact .nilMap
theorem LR.ext {μ μ1 : Mu} (he : ∀ b k, μ b = some k → μ1 b = some k) {xs ys : List Value} (h : LR μ xs ys) : LR μ1 xs ys := ⟨h.1, fun i v v' hx hy => (h.2 i v v' hx hy).ext he⟩
theorem flat1_eq {μ : Mu} {v v' : Value} (hf : flat1 v = true) (h : VR μ v v') : v' = v := by
  cases h <;> first | rfl | (simp [flat1] at hf; done) | skip
theorem flat1_refl (μ : Mu) {v : Value} (hf : flat1 v = true) : VR μ v v := by
  unfold flat1 at hf
  split at hf <;> first | constructor | (cases hf; done)
theorem AR.flat {μ : Mu} {xs ys : Array Value} (hf : xs.all flat1 = true) (h : AR μ xs ys) : ys = xs := by
  apply Array.ext
  · exact h.1.symm
  · intro i hi1 hi2
    have hx : flat1 xs[i] = true := by
      have := Array.all_eq_true.1 hf i hi2
      simpa using this
    exact flat1_eq hx (h.2 i _ _ (Array.getElem?_eq_getElem hi2) (Array.getElem?_eq_getElem hi1))
theorem AR.refl_flat (μ : Mu) {xs : Array Value} (hf : xs.all flat1 = true) : AR μ xs xs := by
  refine ⟨rfl, fun i v v' hx hy => ?_⟩
  rw [hx] at hy
  obtain rfl := Option.some.inj hy
  obtain ⟨hi, rfl⟩ := Array.getElem?_eq_some_iff.1 hx
  exact flat1_refl μ (by simpa using Array.all_eq_true.1 hf i hi)
theorem flat_eq {μ : Mu} {v v' : Value} (hf : flat v = true) (h : VR μ v v') : v' = v := by
  unfold flat at hf
  cases h1 : flat1 v
  · rw [h1] at hf
    simp only [Bool.false_or] at hf
    cases h with
    | agg hl h => exact congrArg Value.agg (AR.flat hf ⟨hl, h⟩)
    | tuple hl h => exact congrArg Value.tuple (AR.flat hf ⟨hl, h⟩)
    | func fn hl h hl' h' =>
      cases fn <;> simp only [Bool.and_eq_true, reduceCtorEq] at hf
      rw [AR.flat hf.1 ⟨hl, h⟩, AR.flat hf.2 ⟨hl', h'⟩]
    | _ => simp at hf
  · exact flat1_eq h1 h
theorem flat_refl (μ : Mu) {v : Value} (hf : flat v = true) : VR μ v v := by
  unfold flat at hf
  cases h1 : flat1 v
  · rw [h1] at hf
    simp only [Bool.false_or] at hf
    split at hf
    · exact .agg rfl (AR.refl_flat μ hf).2
    · exact .tuple rfl (AR.refl_flat μ hf).2
    · simp only [Bool.and_eq_true] at hf
      exact .func _ rfl (AR.refl_flat μ hf.1).2 rfl (AR.refl_flat μ hf.2).2
    · cases hf
  · exact flat1_refl μ h1
theorem VR.oneCell {μ : Mu} {v v' : Value} (h : VR μ v v') : v'.oneCell' = v.oneCell' := by cases h <;> rfl
theorem VR.undef (μ : Mu) : VR μ Go.undef Go.undef := .tuple rfl fun i v v' h => by simp at h
theorem VR.cells {μ : Mu} {v v' : Value} (h : VR μ v v') : AR μ v.cells v'.cells := by
  cases h with
  | agg hl h => exact ⟨hl, h⟩
  | _ =>
    refine ⟨rfl, fun i x x' hx hy => ?_⟩
    obtain ⟨hi, rfl⟩ := Array.getElem?_eq_some_iff.1 hx
    obtain ⟨hj, rfl⟩ := Array.getElem?_eq_some_iff.1 hy
    simp only [Value.cells, List.size_toArray, List.length_cons, List.length_nil] at hi hj
    obtain rfl : i = 0 := by omega
    first
      | (simp only [Value.cells]; constructor <;> assumption; done)
      | (constructor <;> assumption)
theorem AR.toList {μ : Mu} {xs ys : Array Value} (h : AR μ xs ys) : LR μ xs.toList ys.toList := ⟨by simpa using h.1, fun i v v' hx hy => h.2 i v v' (by simpa using hx) (by simpa using hy)⟩
theorem LR.toArray {μ : Mu} {xs ys : List Value} (h : LR μ xs ys) : AR μ xs.toArray ys.toArray := ⟨by simpa using h.1, fun i v v' hx hy => h.2 i v v' (by simpa using hx) (by simpa using hy)⟩
theorem LR.nil (μ : Mu) : LR μ [] [] := ⟨rfl, fun i v v' h => by simp at h⟩
theorem LR.cons {μ : Mu} {x y : Value} {xs ys : List Value} (h : VR μ x y) (hs : LR μ xs ys) : LR μ (x :: xs) (y :: ys) := by
  refine ⟨by simp [hs.1], fun i v v' hx hy => ?_⟩
  cases i with
  | zero => simp at hx hy; subst hx; subst hy; exact h
  | succ i => simp at hx hy; exact hs.2 i v v' hx hy
theorem LR.append {μ : Mu} {xs ys xs' ys' : List Value} (h : LR μ xs ys) (h' : LR μ xs' ys') : LR μ (xs ++ xs') (ys ++ ys') := by
  refine ⟨by simp [h.1, h'.1], fun i v v' hx hy => ?_⟩
  by_cases hi : i < xs.length
  · rw [List.getElem?_append_left hi] at hx
    rw [List.getElem?_append_left (by rw [← h.1]; exact hi)] at hy
    exact h.2 i v v' hx hy
  · rw [List.getElem?_append_right (by omega)] at hx
    rw [List.getElem?_append_right (by rw [← h.1]; omega), ← h.1] at hy
    exact h'.2 _ v v' hx hy
theorem LR.take {μ : Mu} {xs ys : List Value} (h : LR μ xs ys) (n : Nat) : LR μ (xs.take n) (ys.take n) := by
  refine ⟨by simp [h.1], fun i v v' hx hy => ?_⟩
  rw [List.getElem?_take] at hx hy
  split at hx
  · rename_i hi; rw [if_pos hi] at hy; exact h.2 i v v' hx hy
  · cases hx
theorem LR.drop {μ : Mu} {xs ys : List Value} (h : LR μ xs ys) (n : Nat) : LR μ (xs.drop n) (ys.drop n) := by
  refine ⟨by simp [h.1], fun i v v' hx hy => ?_⟩
  rw [List.getElem?_drop] at hx hy
  exact h.2 _ v v' hx hy
theorem LR.set {μ : Mu} {xs ys : List Value} (h : LR μ xs ys) (n : Nat) {x y : Value} (hx : VR μ x y) : LR μ (xs.set n x) (ys.set n y) := by
  refine ⟨by simp [h.1], fun i v v' hv hv' => ?_⟩
  rw [List.getElem?_set] at hv hv'
  by_cases hn : n = i
  · subst hn
    rw [if_pos rfl] at hv hv'
    rw [← h.1] at hv'
    split at hv
    · rename_i hlt; rw [if_pos hlt] at hv'; cases hv; cases hv'; exact hx
    · cases hv
  · rw [if_neg hn] at hv hv'
    exact h.2 i v v' hv hv'
theorem LR.replicate (μ : Mu) (n : Nat) : LR μ (List.replicate n undef) (List.replicate n undef) := by
  refine ⟨rfl, fun i v v' hx hy => ?_⟩
  rw [List.getElem?_replicate] at hx hy
  split at hx
  · rename_i h; rw [if_pos h] at hy; cases hx; cases hy; exact VR.undef μ
  · cases hx
theorem LR.get {μ : Mu} {xs ys : List Value} (h : LR μ xs ys) {i : Nat} {v : Value} (hx : xs[i]? = some v) : ∃ v', ys[i]? = some v' ∧ VR μ v v' := by
  obtain ⟨hi, rfl⟩ := gsI.1 hx
  have hj : i < ys.length := by rw [← h.1]; exact hi
  exact ⟨ys[i], gtE hj, h.2 i _ _ (gtE hi) (gtE hj)⟩
theorem AR.get {μ : Mu} {xs ys : Array Value} (h : AR μ xs ys) {i : Nat} {v : Value} (hx : xs[i]? = some v) : ∃ v', ys[i]? = some v' ∧ VR μ v v' := by
  obtain ⟨v', h1, h2⟩ := h.toList.get (i := i) (v := v) (by simpa using hx)
  exact ⟨v', by simpa using h1, h2⟩
theorem LR.getD {μ : Mu} {xs ys : List Value} (h : LR μ xs ys) (i : Nat) : VR μ (xs.getD i undef) (ys.getD i undef) := by
  by_cases hi : i < xs.length
  · obtain ⟨v', h1, h2⟩ := h.get (gtE hi)
    simp only [List.getD_eq_getElem?_getD, h1, gtE hi, Option.getD_some]
    exact h2
  · simp only [List.getD_eq_getElem?_getD]
    rw [List.getElem?_eq_none (by omega), List.getElem?_eq_none (by rw [← h.1]; omega)]
    exact VR.undef μ
def UnF (fr : Nat × Nat) (N : Nat) : Prop := ∀ j, j < N → ¬ (fr.1 ≤ j ∧ j < fr.2)
inductive BlkR (P : Program) (base : Nat) (μ : Mu) (w : World) (k : Bk) : SObj → Prop
  | own {e : TypeId} {l : Bool} {cs : List Value} {cur : Array Value} {fr : Nat × Nat} {inf : TypeInfo} (hb : base ≤ k.g) (hl : k.loose = l) (hi : P.info? e = some inf) (hs : inf.size = k.sz)
      (hg : w.heap[k.g]? = some (.cells cur e fr)) (hN : cur.size = k.N) (hf : UnF fr k.N) (hfit : k.o + cs.length ≤ k.N)
      (hv : ∀ (i : Nat) (v : Value), cs[i]? = some v → ∃ v', cur[k.o + i]? = some v' ∧ VR μ v v') : BlkR P base μ w k (.own e l cs)
  | ro {e : TypeId} {cs : List Value} {inf : TypeInfo} (hi : P.info? e = some inf) (hs : inf.size = k.sz) (hv : ∀ (i : Nat) (v : Value), cs[i]? = some v → ∃ v', w.cell? ⟨k.g, k.o + i, none⟩ = some v' ∧ VR μ v v') (hsz : k.g < w.heap.size) : BlkR P base μ w k (.ro e cs)
  | dead : BlkR P base μ w k .dead
structure Sim (P : Program) (base : Nat) (μ : Mu) (H : SHeap) (w : World) : Prop where
  pos : 0 < H.length
  size : base ≤ w.heap.size
  dom : ∀ b k, μ b = some k → 0 < b ∧ b < H.length
  blk : ∀ b k x, μ b = some k → H[b]? = some x → BlkR P base μ w k x
  inj : ∀ b b' k k', μ b = some k → μ b' = some k' → b ≠ b' → IsOwn H b → IsLive H b' → k.g ≠ k'.g
structure Step (μ : Mu) (H : SHeap) (w : World) (μ1 : Mu) (H1 : SHeap) (w1 : World) : Prop where
  ext : ∀ b k, μ b = some k → μ1 b = some k
  new : ∀ b k, μ1 b = some k → μ b = some k ∨ H.length ≤ b
  len : H.length ≤ H1.length
  own : ∀ b k, μ1 b = some k → IsOwn H1 b → w.heap.size ≤ k.g ∨ ∃ b0 k0, μ b0 = some k0 ∧ IsOwn H b0 ∧ k0.g = k.g
  os : w1.os = w.os
  tape : w1.tape = w.tape
  output : w1.output = w.output
  size : w.heap.size ≤ w1.heap.size
  frame : ∀ g, g < w.heap.size → (∀ b k, μ b = some k → IsOwn H b → k.g ≠ g) → w1.heap[g]? = w.heap[g]?
theorem Step.refl (μ : Mu) (H : SHeap) (w : World) : Step μ H w μ H w :=
  ⟨fun _ _ h => h, fun _ _ h => .inl h, Nat.le_refl _, fun b k h ho => .inr ⟨b, k, h, ho, rfl⟩, rfl, rfl, rfl, Nat.le_refl _, fun _ _ _ => rfl⟩
theorem Step.trans {μ μ1 μ2 : Mu} {H H1 H2 : SHeap} {w w1 w2 : World} (h : Step μ H w μ1 H1 w1) (h' : Step μ1 H1 w1 μ2 H2 w2) : Step μ H w μ2 H2 w2 where
  ext b k hb := h'.ext b k (h.ext b k hb)
  new b k hb := by
    rcases h'.new b k hb with h1 | h1
    · exact h.new b k h1
    · exact .inr (Nat.le_trans h.len h1)
  len := Nat.le_trans h.len h'.len
  own b k hb ho := by
    rcases h'.own b k hb ho with h1 | ⟨b0, k0, h1, h2, h3⟩
    · exact .inl (Nat.le_trans h.size h1)
    · rcases h.own b0 k0 h1 h2 with h4 | ⟨b1, k1, h4, h5, h6⟩
      · exact .inl (by omega)
      · exact .inr ⟨b1, k1, h4, h5, by omega⟩
  os := h'.os.trans h.os
  tape := h'.tape.trans h.tape
  output := h'.output.trans h.output
  size := Nat.le_trans h.size h'.size
  frame g hg hne := by
    rw [h'.frame g (Nat.lt_of_lt_of_le hg h.size) ?_, h.frame g hg hne]
    intro b k hb ho e
    rcases h.own b k hb ho with h1 | ⟨b0, k0, h1, h2, h3⟩
    · omega
    · exact hne b0 k0 h1 h2 (by omega)
theorem cell?_of_heap {w w1 : World} {a : Addr} (h : w1.heap[a.block]? = w.heap[a.block]?) : w1.cell? a = w.cell? a := by simp [World.cell?, h]
theorem BlkR.keep {P : Program} {base : Nat} {μ μ1 : Mu} {w w1 : World} {k : Bk} {x : SObj} (h : BlkR P base μ w k x) (he : ∀ b k, μ b = some k → μ1 b = some k)
    (hw : x.cells? ≠ none → w1.heap[k.g]? = w.heap[k.g]?) (hsize : w.heap.size ≤ w1.heap.size) : BlkR P base μ1 w1 k x := by
  cases h with
  | own hb hl hi hs hg hN hf hfit hv =>
    exact .own hb hl hi hs (by rw [hw (by simp [SObj.cells?])]; exact hg) hN hf hfit fun i v hi => let ⟨v', h1, h2⟩ := hv i v hi; ⟨v', h1, h2.ext he⟩
  | ro hi hs hv hsz =>
    refine .ro hi hs (fun i v hi => ?_) (Nat.lt_of_lt_of_le hsz hsize)
    obtain ⟨v', h1, h2⟩ := hv i v hi
    exact ⟨v', by rw [cell?_of_heap (w := w) (by exact hw (by simp [SObj.cells?]))]; exact h1, h2.ext he⟩
  | dead => exact .dead
theorem BlkR.lt {P : Program} {base : Nat} {μ : Mu} {w : World} {k : Bk} {x : SObj} (h : BlkR P base μ w k x) (hx : x.cells? ≠ none) : k.g < w.heap.size := by
  cases h with
  | own hb hl hi hs hg hN hf hfit hv => exact (Array.getElem?_eq_some_iff.1 hg).1
  | ro hi hs hv hsz => exact hsz
  | dead => simp [SObj.cells?] at hx
theorem Sim.heap {P : Program} {base : Nat} {μ : Mu} {H : SHeap} {w w1 : World} (h : Sim P base μ H w) (hh : w1.heap = w.heap) : Sim P base μ H w1 :=
  ⟨h.pos, by rw [hh]; exact h.size, h.dom, fun b k x hb hx => (h.blk b k x hb hx).keep (fun _ _ h => h) (fun _ => by rw [hh]) (by rw [hh]; exact Nat.le_refl _), h.inj⟩
theorem Step.drawn (μ : Mu) (H : SHeap) (w : World) (n : Nat) : Step μ H w μ H { w with drawn := n } :=
  ⟨fun _ _ h => h, fun _ _ h => .inl h, Nat.le_refl _, fun b k h ho => .inr ⟨b, k, h, ho, rfl⟩, rfl, rfl, rfl, Nat.le_refl _, fun _ _ _ => rfl⟩
def Mu.put (μ : Mu) (b : Nat) (k : Bk) : Mu := fun c => if c = b then some k else μ c
theorem Mu.put_same (μ : Mu) (b : Nat) (k : Bk) : μ.put b k b = some k := by simp [Mu.put]
theorem Mu.put_ne (μ : Mu) {b c : Nat} (k : Bk) (h : c ≠ b) : μ.put b k c = μ c := by simp [Mu.put, h]
theorem Sim.ext_put {P : Program} {base : Nat} {μ : Mu} {H : SHeap} {w : World} (h : Sim P base μ H w) (k : Bk) : ∀ b k', μ b = some k' → μ.put H.length k b = some k' := fun b k' hb => by
  rw [Mu.put_ne _ _ (by have := (h.dom b k' hb).2; omega)]; exact hb
theorem get_append_lt {H : SHeap} {x : SObj} {b : Nat} (h : b < H.length) : (H ++ [x])[b]? = H[b]? := List.getElem?_append_left h
theorem get_append_new (H : SHeap) (x : SObj) : (H ++ [x])[H.length]? = some x := by simp
theorem isOwn_append {H : SHeap} {x : SObj} {b : Nat} (h : IsOwn (H ++ [x]) b) (hb : b ≠ H.length) : IsOwn H b := by
  obtain ⟨e, l, cs, h⟩ := h
  have hlt : b < (H ++ [x]).length := (gsI.1 h).1
  simp at hlt
  exact ⟨e, l, cs, by rwa [get_append_lt (by omega)] at h⟩
theorem isLive_append {H : SHeap} {x : SObj} {b : Nat} (h : IsLive (H ++ [x]) b) (hb : b ≠ H.length) : IsLive H b := by
  obtain ⟨y, cs, h, hc⟩ := h
  have hlt : b < (H ++ [x]).length := (gsI.1 h).1
  simp at hlt
  exact ⟨y, cs, by rwa [get_append_lt (by omega)] at h, hc⟩
theorem Sim.alloc {P : Program} {base : Nat} {μ : Mu} {H : SHeap} {w : World} (h : Sim P base μ H w) {e : TypeId} {l : Bool} {cs : List Value} {cur : Array Value} {fr : Nat × Nat} {inf : TypeInfo} {sz : Nat}
    (hi : P.info? e = some inf) (hs : inf.size = sz) (hf : UnF fr cur.size) (hfit : cs.length ≤ cur.size) (hv : ∀ (i : Nat) (v : Value), cs[i]? = some v → ∃ v', cur[i]? = some v' ∧ VR μ v v') :
    Sim P base (μ.put H.length ⟨w.heap.size, 0, cur.size, sz, l⟩) (H ++ [.own e l cs]) (w.alloc (.cells cur e fr)) ∧ Step μ H w (μ.put H.length ⟨w.heap.size, 0, cur.size, sz, l⟩) (H ++ [.own e l cs]) (w.alloc (.cells cur e fr)) := by
  have hold : ∀ g, g < w.heap.size → (w.alloc (.cells cur e fr)).heap[g]? = w.heap[g]? := fun g hg => heap_alloc_old w _ hg
  have he := h.ext_put ⟨w.heap.size, 0, cur.size, sz, l⟩
  constructor
  · refine ⟨by simp, by simp; have := h.size; omega, fun b k hb => ?_, fun b k x hb hx => ?_, fun b b' k k' hb hb' hne ho hl' => ?_⟩
    · by_cases hbe : b = H.length
      · subst hbe; exact ⟨h.pos, by simp⟩
      · rw [Mu.put_ne _ _ hbe] at hb; have := h.dom b k hb; simp; omega
    · by_cases hbe : b = H.length
      · subst hbe
        rw [Mu.put_same] at hb
        obtain rfl := Option.some.inj hb
        rw [get_append_new] at hx
        obtain rfl := Option.some.inj hx
        exact .own h.size rfl hi hs (heap_alloc_new w _) rfl hf (by simpa using hfit) fun i v hc => let ⟨v', h1, h2⟩ := hv i v hc; ⟨v', by simpa using h1, h2.ext he⟩
      · rw [Mu.put_ne _ _ hbe] at hb
        rw [get_append_lt (h.dom b k hb).2] at hx
        exact (h.blk b k x hb hx).keep he (fun hxn => hold _ ((h.blk b k x hb hx).lt hxn)) (by simp)
    · by_cases hbe : b = H.length
      · subst hbe
        rw [Mu.put_same] at hb
        obtain rfl := Option.some.inj hb
        have hbe' : b' ≠ H.length := fun e => hne e.symm
        rw [Mu.put_ne _ _ hbe'] at hb'
        obtain ⟨y, cy, hy, hc⟩ := isLive_append hl' hbe'
        have := (h.blk b' k' y hb' hy).lt (by rw [hc]; simp)
        simp only; omega
      · rw [Mu.put_ne _ _ hbe] at hb
        have ho' := isOwn_append ho hbe
        by_cases hbe' : b' = H.length
        · subst hbe'
          rw [Mu.put_same] at hb'
          obtain rfl := Option.some.inj hb'
          obtain ⟨e0, l0, c0, hy⟩ := ho'
          have := (h.blk b k _ hb hy).lt (by simp [SObj.cells?])
          simp only; omega
        · rw [Mu.put_ne _ _ hbe'] at hb'
          exact h.inj b b' k k' hb hb' hne ho' (isLive_append hl' hbe')
  · refine ⟨he, fun b k hb => ?_, by simp, fun b k hb ho => ?_, rfl, rfl, rfl, by simp, fun g hg _ => hold g hg⟩
    · by_cases hbe : b = H.length
      · exact .inr (by omega)
      · rw [Mu.put_ne _ _ hbe] at hb; exact .inl hb
    · by_cases hbe : b = H.length
      · subst hbe; rw [Mu.put_same] at hb; obtain rfl := Option.some.inj hb; exact .inl (Nat.le_refl _)
      · rw [Mu.put_ne _ _ hbe] at hb; exact .inr ⟨b, k, hb, isOwn_append ho hbe, rfl⟩
def putObj (w : World) (g : Nat) (x : Obj) : World := { w with heap := w.heap.setIfInBounds g x }
theorem putObj_same (w : World) (g : Nat) (x : Obj) (h : g < w.heap.size) : (putObj w g x).heap[g]? = some x := by simp [putObj, h]
theorem putObj_other (w : World) (g i : Nat) (x : Obj) (h : i ≠ g) : (putObj w g x).heap[i]? = w.heap[i]? := by simp [putObj, Array.getElem?_setIfInBounds_ne (Ne.symm h)]
theorem putObj_size (w : World) (g : Nat) (x : Obj) : (putObj w g x).heap.size = w.heap.size := by simp [putObj]
theorem isOwn_set {H : SHeap} {b c : Nat} {x : SObj} (h : IsOwn (H.set b x) c) (hx : IsOwn H b) : IsOwn H c := by
  by_cases hc : b = c
  · subst hc; exact hx
  · obtain ⟨e, l, cs, h⟩ := h
    exact ⟨e, l, cs, by rwa [List.getElem?_set_ne hc] at h⟩
theorem isLive_set {H : SHeap} {b c : Nat} {x : SObj} (h : IsLive (H.set b x) c) (hx : IsOwn H b) : IsLive H c := by
  by_cases hc : b = c
  · subst hc; exact hx.live
  · obtain ⟨y, cs, h, hh⟩ := h
    exact ⟨y, cs, by rwa [List.getElem?_set_ne hc] at h, hh⟩
theorem Sim.put {P : Program} {base : Nat} {μ : Mu} {H : SHeap} {w : World} (h : Sim P base μ H w) {b : Nat} {k : Bk} {e : TypeId} {l : Bool} {cs cs' : List Value} {cur' : Array Value} {fr : Nat × Nat}
    (hb : μ b = some k) (hx : H[b]? = some (.own e l cs)) (hcur : ∃ cur, w.heap[k.g]? = some (.cells cur e fr) ∧ cur'.size = cur.size) (hlen : cs'.length = cs.length)
    (hv : ∀ (i : Nat) (v : Value), cs'[i]? = some v → ∃ v', cur'[k.o + i]? = some v' ∧ VR μ v v') :
    Sim P base μ (H.set b (.own e l cs')) (putObj w k.g (.cells cur' e fr)) ∧ Step μ H w μ (H.set b (.own e l cs')) (putObj w k.g (.cells cur' e fr)) := by
  obtain ⟨cur, hcur, hsz⟩ := hcur
  have hown : IsOwn H b := ⟨e, l, cs, hx⟩
  have hlt : k.g < w.heap.size := (Array.getElem?_eq_some_iff.1 hcur).1
  have hb' : b < H.length := (h.dom b k hb).2
  constructor
  · refine ⟨by simpa using h.pos, by rw [putObj_size]; exact h.size, fun c kc hc => by simpa using h.dom c kc hc, fun c kc x hc hxc => ?_, fun c c' kc kc' hc hc' hne ho hl' => h.inj c c' kc kc' hc hc' hne (isOwn_set ho hown) (isLive_set hl' hown)⟩
    by_cases hcb : b = c
    · subst hcb
      rw [hb] at hc
      obtain rfl := Option.some.inj hc
      rw [List.getElem?_set_self hb'] at hxc
      obtain rfl := Option.some.inj hxc
      cases h.blk b k _ hb hx with
      | own hbg hl hi hs hg hN hf hfit hv0 =>
        rw [hcur] at hg
        injection hg with hg
        injection hg with hg1 hg2 hg3
        subst hg1; subst hg3
        exact .own hbg hl hi hs (putObj_same w _ _ hlt) (by omega) hf (by omega) hv
    · rw [List.getElem?_set_ne hcb] at hxc
      have hblk := h.blk c kc x hc hxc
      refine hblk.keep (fun _ _ h => h) (fun hxn => putObj_other w _ _ _ ?_) (by rw [putObj_size]; exact Nat.le_refl _)
      obtain ⟨cs0, hcs0⟩ : ∃ cs0, x.cells? = some cs0 := by cases hq : x.cells? with | none => exact absurd hq hxn | some q => exact ⟨q, rfl⟩
      exact fun e => h.inj b c k kc hb hc hcb hown ⟨x, cs0, hxc, hcs0⟩ e.symm
  · refine ⟨fun _ _ h => h, fun _ _ h => .inl h, by simp, fun c kc hc ho => .inr ⟨c, kc, hc, isOwn_set ho hown, rfl⟩, rfl, rfl, rfl, by rw [putObj_size]; exact Nat.le_refl _, fun g hg hne => ?_⟩
    exact putObj_other w _ _ _ fun e => hne b k hb hown e.symm
theorem Sim.kill {P : Program} {base : Nat} {μ : Mu} {H : SHeap} {w : World} (h : Sim P base μ H w) (b : Nat) (hown : IsOwn H b) : Sim P base μ (H.set b .dead) w ∧ Step μ H w μ (H.set b .dead) w := by
  have hb' : b < H.length := by obtain ⟨e, l, cs, hx⟩ := hown; exact (gsI.1 hx).1
  constructor
  · refine ⟨by simpa using h.pos, h.size, fun c kc hc => by simpa using h.dom c kc hc, fun c kc x hc hxc => ?_, fun c c' kc kc' hc hc' hne ho hl' => h.inj c c' kc kc' hc hc' hne (isOwn_set ho hown) (isLive_set hl' hown)⟩
    by_cases hcb : b = c
    · subst hcb
      rw [List.getElem?_set_self hb'] at hxc
      obtain rfl := Option.some.inj hxc
      exact .dead
    · rw [List.getElem?_set_ne hcb] at hxc
      exact h.blk c kc x hc hxc
  · exact ⟨fun _ _ h => h, fun _ _ h => .inl h, by simp, fun c kc hc ho => .inr ⟨c, kc, hc, isOwn_set ho hown, rfl⟩, rfl, rfl, rfl, Nat.le_refl _, fun _ _ _ => rfl⟩
theorem Sim.moved {P : Program} {base : Nat} {μ : Mu} {H : SHeap} {w : World} (h : Sim P base μ H w) {b i : Nat} {k : Bk} {e : TypeId} {l l' : Bool} {cs cs' : List Value} {cur' : Array Value} {fr : Nat × Nat}
    (hb : μ b = some k) (hx : H[b]? = some (.own e l cs)) (hcur : ∃ cur, w.heap[k.g]? = some (.cells cur e fr) ∧ cur'.size = cur.size) (hfit : k.o + i + cs'.length ≤ cur'.size)
    (hv : ∀ (j : Nat) (v : Value), cs'[j]? = some v → ∃ v', cur'[k.o + i + j]? = some v' ∧ VR μ v v') :
    Sim P base (μ.put H.length ⟨k.g, k.o + i, k.N, k.sz, l'⟩) (H.set b .dead ++ [.own e l' cs']) (putObj w k.g (.cells cur' e fr)) ∧
    Step μ H w (μ.put H.length ⟨k.g, k.o + i, k.N, k.sz, l'⟩) (H.set b .dead ++ [.own e l' cs']) (putObj w k.g (.cells cur' e fr)) := by
  obtain ⟨cur, hcur, hsz⟩ := hcur
  have hown : IsOwn H b := ⟨e, l, cs, hx⟩
  have hlt : k.g < w.heap.size := (Array.getElem?_eq_some_iff.1 hcur).1
  have hb' : b < H.length := (h.dom b k hb).2
  have he := h.ext_put ⟨k.g, k.o + i, k.N, k.sz, l'⟩
  have hlen : (H.set b .dead).length = H.length := by simp
  have hdead : ∀ {c}, c ≠ H.length → IsLive (H.set b .dead ++ [.own e l' cs']) c → c ≠ b ∧ IsLive H c := by
    intro c hc hl
    have h1 := isLive_append hl (by rw [hlen]; exact hc)
    refine ⟨fun e => ?_, isLive_set h1 hown⟩
    subst e
    obtain ⟨y, cy, hy, hcy⟩ := h1
    rw [List.getElem?_set_self hb'] at hy
    obtain rfl := Option.some.inj hy
    simp [SObj.cells?] at hcy
  have hsize : (putObj w k.g (.cells cur' e fr)).heap.size = w.heap.size := putObj_size ..
  have hkeep : ∀ c kc x, μ c = some kc → H[c]? = some x → c ≠ b → BlkR P base (μ.put H.length ⟨k.g, k.o + i, k.N, k.sz, l'⟩) (putObj w k.g (.cells cur' e fr)) kc x := by
    intro c kc x hc hxc hcb
    have hblk := h.blk c kc x hc hxc
    refine hblk.keep he (fun hxn => putObj_other w _ _ _ ?_) (by rw [hsize]; exact Nat.le_refl _)
    obtain ⟨cs0, hcs0⟩ : ∃ cs0, x.cells? = some cs0 := by cases hq : x.cells? with | none => exact absurd hq hxn | some q => exact ⟨q, rfl⟩
    exact fun e => h.inj b c k kc hb hc (Ne.symm hcb) hown ⟨x, cs0, hxc, hcs0⟩ e.symm
  constructor
  · refine ⟨by simp, by rw [hsize]; exact h.size, fun c kc hc => ?_, fun c kc x hc hxc => ?_, fun c c' kc kc' hc hc' hne ho hl' => ?_⟩
    · by_cases hce : c = H.length
      · subst hce; exact ⟨h.pos, by simp⟩
      · rw [Mu.put_ne _ _ hce] at hc; have := h.dom c kc hc; simp; omega
    · by_cases hce : c = H.length
      · subst hce
        rw [Mu.put_same] at hc
        obtain rfl := Option.some.inj hc
        rw [← hlen, get_append_new] at hxc
        obtain rfl := Option.some.inj hxc
        cases h.blk b k _ hb hx with
        | own hbg hl hi hs hg hN hf hfit0 hv0 =>
          rw [hcur] at hg
          injection hg with hg
          injection hg with hg1 hg2 hg3
          subst hg1; subst hg3
          exact .own hbg rfl hi hs (putObj_same w _ _ hlt) (by simp only; omega) hf (by simp only; omega) fun j v hj => let ⟨v', h1, h2⟩ := hv j v hj; ⟨v', h1, h2.ext he⟩
      · rw [Mu.put_ne _ _ hce] at hc
        rw [get_append_lt (by rw [hlen]; exact (h.dom c kc hc).2)] at hxc
        by_cases hcb : b = c
        · subst hcb
          rw [List.getElem?_set_self hb'] at hxc
          obtain rfl := Option.some.inj hxc
          exact .dead
        · rw [List.getElem?_set_ne hcb] at hxc
          exact hkeep c kc x hc hxc (Ne.symm hcb)
    · by_cases hce : c = H.length
      · subst hce
        rw [Mu.put_same] at hc
        obtain rfl := Option.some.inj hc
        have hce' : c' ≠ H.length := fun e => hne e.symm
        rw [Mu.put_ne _ _ hce'] at hc'
        obtain ⟨h1, h2⟩ := hdead hce' hl'
        exact h.inj b c' k kc' hb hc' (Ne.symm h1) hown h2
      · rw [Mu.put_ne _ _ hce] at hc
        obtain ⟨h1, h2⟩ := hdead hce ho.live
        have ho1 := isOwn_append ho (by rw [hlen]; exact hce)
        have ho2 : IsOwn H c := by
          obtain ⟨e0, l0, c0, hy⟩ := ho1
          exact ⟨e0, l0, c0, by rwa [List.getElem?_set_ne (Ne.symm h1)] at hy⟩
        by_cases hce' : c' = H.length
        · subst hce'
          rw [Mu.put_same] at hc'
          obtain rfl := Option.some.inj hc'
          exact h.inj c b kc k hc hb h1 ho2 hown.live
        · rw [Mu.put_ne _ _ hce'] at hc'
          exact h.inj c c' kc kc' hc hc' hne ho2 (hdead hce' hl').2
  · refine ⟨he, fun c kc hc => ?_, by simp, fun c kc hc ho => ?_, rfl, rfl, rfl, by rw [hsize]; exact Nat.le_refl _, fun g hg hne => putObj_other w _ _ _ fun e => hne b k hb hown e.symm⟩
    · by_cases hce : c = H.length
      · exact .inr (by omega)
      · rw [Mu.put_ne _ _ hce] at hc; exact .inl hc
    · by_cases hce : c = H.length
      · subst hce; rw [Mu.put_same] at hc; obtain rfl := Option.some.inj hc; exact .inr ⟨b, k, hb, hown, rfl⟩
      · rw [Mu.put_ne _ _ hce] at hc
        exact .inr ⟨c, kc, hc, isOwn_set (isOwn_append ho (by rw [hlen]; exact hce)) hown, rfl⟩
theorem pureRun_bind {P : Program} {α β : Type} (x : Sem α) (f : α → Sem β) : pureRun P (x >>= f) = (pureRun P x).bind fun a => pureRun P (f a) := by
  show pureRun P (x.bind f) = _
  induction x with
  | pure a => rfl
  | program k ih => simp only [Sem.bind, pureRun]; exact ih P
  | mark m k ih => simp only [Sem.bind, pureRun]; exact ih
  | _ => simp [Sem.bind, pureRun]
theorem pureRun_pure {P : Program} {α : Type} (a : α) : pureRun P (pure a : Sem α) = some a := rfl
def sz? (P : Program) (t : TypeId) : Option Nat := (P.info? t).map (·.size)
def zero? (P : Program) (t : TypeId) : Option Value := (P.info? t).bind (·.zero)
def bytes? (P : Program) (t : TypeId) : Option Nat := (P.info? t).map (·.bytes)
theorem pureRun_underlying {P : Program} (t : TypeId) : pureRun P (underlying t) = P.underlying t := by
  unfold underlying
  rw [pureRun_bind]
  show (some P).bind _ = _
  simp only [Option.bind_some]
  cases h : P.underlying t <;> rfl
theorem pureRun_typeInfo {P : Program} (t : TypeId) : pureRun P (typeInfo t) = P.info? t := by
  unfold typeInfo
  rw [pureRun_bind]
  show (some P).bind _ = _
  simp only [Option.bind_some]
  cases h : P.info? t <;> rfl
theorem pureRun_sizeOf {P : Program} (t : TypeId) : pureRun P (sizeOf t) = sz? P t := by
  unfold sizeOf
  rw [pureRun_bind, pureRun_typeInfo]
  cases h : P.info? t <;> simp [sz?, h, pureRun_pure]
theorem pureRun_zeroValue {P : Program} (t : TypeId) : pureRun P (zeroValue t) = zero? P t := by
  unfold zeroValue
  rw [pureRun_bind, pureRun_typeInfo]
  cases h : P.info? t with
  | none => simp [zero?, h]
  | some i => cases hz : i.zero <;> simp [zero?, h, hz] <;> rfl
theorem pureRun_isAgg {P : Program} (t : TypeId) : pureRun P (isAgg t) = (P.underlying t).map fun d => match d with | .struct _ | .array _ _ => true | _ => false := by
  unfold isAgg
  rw [pureRun_bind, pureRun_underlying]
  cases h : P.underlying t with
  | none => rfl
  | some d => cases d <;> rfl
theorem run_sizeOf? {P : Program} {t : TypeId} {n : Nat} (h : sz? P t = some n) (w : World) : (sizeOf t).run P w = .ok n w := pureRun_run _ _ (by rw [pureRun_sizeOf]; exact h) w
theorem run_zeroValue? {P : Program} {t : TypeId} {z : Value} (h : zero? P t = some z) (w : World) : (zeroValue t).run P w = .ok z w := pureRun_run _ _ (by rw [pureRun_zeroValue]; exact h) w
theorem AR.set {μ : Mu} {xs ys : Array Value} (h : AR μ xs ys) (n : Nat) {x y : Value} (hx : VR μ x y) : AR μ (xs.setIfInBounds n x) (ys.setIfInBounds n y) := by
  have := (h.toList.set n hx).toArray
  rw [show xs.setIfInBounds n x = (xs.toList.set n x).toArray from by apply Array.ext'; simp, show ys.setIfInBounds n y = (ys.toList.set n y).toArray from by apply Array.ext'; simp]
  exact this
theorem foldl_sim {μ : Mu} (off : Nat) : ∀ (l l' : List Value) (j : Nat) (cs cs' : Array Value), LR μ l l' → AR μ cs cs' →
    AR μ ((l.zipIdx j).foldl (fun cs (cj : Value × Nat) => cs.setIfInBounds (off + cj.2) cj.1) cs) ((l'.zipIdx j).foldl (fun cs (cj : Value × Nat) => cs.setIfInBounds (off + cj.2) cj.1) cs')
  | [], [], _, _, _, _, h => h
  | [], _ :: _, _, _, _, hl, _ => by simp [LR] at hl
  | _ :: _, [], _, _, _, hl, _ => by simp [LR] at hl
  | x :: l, y :: l', j, cs, cs', hl, h => by
    simp only [List.zipIdx_cons, List.foldl_cons]
    refine foldl_sim off l l' (j + 1) _ _ ⟨by simpa using hl.1, fun i v v' hv hv' => hl.2 (i + 1) v v' (by simpa using hv) (by simpa using hv')⟩ (h.set _ ?_)
    exact hl.2 0 x y rfl rfl
theorem fill_sim {μ : Mu} {ρ ρ' : Operand → Value} (place : Nat → Option (Nat × Nat)) : ∀ (ps : List (Nat × Operand)) (cs cs' out : Array Value), (∀ p ∈ ps, VR μ (ρ p.2) (ρ' p.2)) → AR μ cs cs' →
    Instr.fill place cs (ps.map fun p => (p.1, ρ p.2)) = some out → ∃ out', Instr.fill place cs' (ps.map fun p => (p.1, ρ' p.2)) = some out' ∧ AR μ out out'
  | [], cs, cs', out, _, h, hf => by
    simp [Instr.fill] at hf
    subst hf
    exact ⟨cs', rfl, h⟩
  | (i, x) :: ps, cs, cs', out, hp, h, hf => by
    simp only [List.map_cons, Instr.fill] at hf ⊢
    cases hpl : place i with
    | none => simp [hpl] at hf
    | some os =>
      obtain ⟨off, size⟩ := os
      simp only [hpl] at hf ⊢
      have hv := (hp (i, x) (List.mem_cons_self)).cells
      by_cases hc : ((ρ x).cells.size ≠ size || decide (off + (ρ x).cells.size > cs.size)) = true
      · rw [if_pos hc] at hf; cases hf
      · rw [if_neg hc] at hf
        rw [if_neg (by rw [← hv.1, ← h.1]; exact hc)]
        refine fill_sim place ps _ _ out (fun p hm => hp p (List.mem_cons_of_mem _ hm)) ?_ hf
        have := foldl_sim off (ρ x).cells.toList (ρ' x).cells.toList 0 cs cs' hv.toList h
        rw [← Array.foldl_toList, ← Array.foldl_toList, Array.toList_zipIdx, Array.toList_zipIdx]
        exact this
theorem zero_flat {μ : Mu} {z : Value} (hz : flat z = true) : AR μ z.cells z.cells := (flat_refl μ hz).cells
theorem build_sim {P : Program} {μ : Mu} {ρ ρ' : Operand → Value} {t : TypeId} {ps : Array (Nat × Operand)} {z v : Value} (hz : zero? P t = some z) (hzf : flat z = true) (hp : ∀ p ∈ ps, VR μ (ρ p.2) (ρ' p.2))
    (h : pureRun P (Instr.build t (ps.map fun p => (p.1, ρ p.2))) = some v) : ∃ v', pureRun P (Instr.build t (ps.map fun p => (p.1, ρ' p.2))) = some v' ∧ VR μ v v' := by
  have hp' : ∀ p ∈ ps.toList, VR μ (ρ p.2) (ρ' p.2) := fun p hm => hp p (by simpa using hm)
  have hl : ∀ r : Operand → Value, (ps.map fun p => (p.1, r p.2)).toList = ps.toList.map fun p => (p.1, r p.2) := fun r => by simp
  unfold Instr.build at h ⊢
  simp only [pureRun_bind, pureRun_zeroValue, hz, Option.bind_some, pureRun_underlying] at h ⊢
  cases hu : P.underlying t with
  | none => simp [hu] at h
  | some d =>
    simp only [hu, Option.bind_some] at h ⊢
    cases d with
    | struct fields =>
      simp only [pureRun_bind] at h ⊢
      cases hm : pureRun P (fields.mapM fun f => do pure (f.offset, ← sizeOf f.type)) with
      | none => rw [hm] at h; simp at h
      | some places =>
        rw [hm] at h
        simp only [Option.bind_some, hl] at h ⊢
        cases hf : Instr.fill (fun x => places[x]?) z.cells (ps.toList.map fun p => (p.1, ρ p.2)) with
        | none => rw [hf] at h; simp [pureRun, stuck] at h
        | some out =>
          rw [hf] at h
          obtain ⟨out', h1, h2⟩ := fill_sim (ρ' := ρ') _ ps.toList _ _ out hp' (zero_flat hzf) hf
          rw [h1]
          simp only [pureRun_pure, Option.some.injEq] at h ⊢
          subst h
          exact ⟨_, rfl, .agg h2.1 h2.2⟩
    | array n elem =>
      simp only [pureRun_bind, pureRun_sizeOf] at h ⊢
      cases hs : sz? P elem with
      | none => rw [hs] at h; simp at h
      | some size =>
        rw [hs] at h
        simp only [Option.bind_some, hl] at h ⊢
        cases hf : Instr.fill (fun i => some (i * size, size)) z.cells (ps.toList.map fun p => (p.1, ρ p.2)) with
        | none => rw [hf] at h; simp [pureRun, stuck] at h
        | some out =>
          rw [hf] at h
          obtain ⟨out', h1, h2⟩ := fill_sim (ρ' := ρ') _ ps.toList _ _ out hp' (zero_flat hzf) hf
          rw [h1]
          simp only [pureRun_pure, Option.some.injEq] at h ⊢
          subst h
          exact ⟨_, rfl, .agg h2.1 h2.2⟩
    | _ => simp [pureRun, stuck] at h
theorem AR.extract {μ : Mu} {xs ys : Array Value} (h : AR μ xs ys) (i j : Nat) : AR μ (xs.extract i j) (ys.extract i j) := by
  have := ((h.toList.take j).drop i).toArray
  rw [show xs.extract i j = ((xs.toList.take j).drop i).toArray from by apply Array.ext'; simp [Array.toList_extract, List.drop_take], show ys.extract i j = ((ys.toList.take j).drop i).toArray from by apply Array.ext'; simp [Array.toList_extract, List.drop_take]]
  exact this
theorem part_sim {P : Program} {μ : Mu} {t : TypeId} {xs ys : Array Value} {off : Nat} {v : Value} (hx : AR μ xs ys) (h : pureRun P (part t xs off) = some v) : ∃ v', pureRun P (part t ys off) = some v' ∧ VR μ v v' := by
  unfold part at h ⊢
  simp only [pureRun_bind] at h ⊢
  cases ha : pureRun P (isAgg t) with
  | none => rw [ha] at h; simp at h
  | some b =>
    rw [ha] at h
    simp only [Option.bind_some] at h ⊢
    cases b
    · simp only [Bool.false_eq_true, if_false] at h ⊢
      cases hc : xs[off]? with
      | none => simp [hc, pureRun, stuck] at h
      | some c =>
        simp only [hc, pureRun_pure, Option.some.injEq] at h
        subst h
        obtain ⟨v', h1, h2⟩ := hx.get hc
        simp only [h1, pureRun_pure]
        exact ⟨_, rfl, h2⟩
    · simp only [if_true, pureRun_bind, pureRun_sizeOf] at h ⊢
      cases hs : sz? P t with
      | none => rw [hs] at h; simp at h
      | some n =>
        rw [hs] at h
        simp only [Option.bind_some, pureRun_pure, Option.some.injEq] at h ⊢
        subst h
        exact ⟨_, rfl, .agg (hx.extract _ _).1 (hx.extract _ _).2⟩
def intB (P : Program) (t : TypeId) : Bool := match P.underlying t with
  | some (.int _) => true
  | _ => false
def isF (P : Program) (o : Oper) : Bool :=
  match o.op with
  | .move _ | .assign _ | .pick .. | .build .. | .nilCheck _ | .fieldAddr .. | .field .. | .indexAddr .. | .index .. | .extract .. | .makeFunc .. | .makeInterface .. | .binOp .. | .unOp .. => true
  | .call { callee := .builtin .len, .. } | .call { callee := .builtin .max, .. } | .call { callee := .builtin .min, .. } => true
  | .convert s t _ => intB P s && intB P t
  | _ => false
inductive FOp (P : Program) (ρ : Operand → Value) (o : Oper) : Value → Prop
  | move {x : Operand} (h : o.op = .move x) : FOp P ρ o (ρ x)
  | assign {x : Operand} (h : o.op = .assign x) : FOp P ρ o (ρ x)
  | pick {c a b : Operand} {t : Bool} (h : o.op = .pick c a b) (hc : ρ c = .bool t) : FOp P ρ o (if t then ρ a else ρ b)
  | pure {v : Value} (hF : isF P o = true) (hf : (o.op.operands.all fun x => flat (ρ x)) = true) (hv : flat v = true) (h : pureRun P (execOp ρ o) = some (.value v)) : FOp P ρ o v
  | build {t : TypeId} {ps : Array (Nat × Operand)} {z v : Value} (h : o.op = .build t ps) (hz : zero? P t = some z) (hzf : flat z = true) (hr : pureRun P (Instr.build t (ps.map fun p => (p.1, ρ p.2))) = some v) : FOp P ρ o v
  | nilCheck {x : Operand} {a : Addr} (h : o.op = .nilCheck x) (hx : ρ x = .pointer (some a)) : FOp P ρ o (ρ x)
  | fieldAddr {s : TypeId} {x : Operand} {f b i n : Nat} {fs : Array Field} {fd : Field} (h : o.op = .fieldAddr s x f) (hu : P.underlying s = some (.struct fs)) (hf : fs[f]? = some fd) (hs : sz? P fd.type = some (n + 1))
      (hx : ρ x = .pointer (some ⟨b, i, none⟩)) : FOp P ρ o (.pointer (some ⟨b, i + fd.offset, none⟩))
  | field {t : TypeId} {x : Operand} {f : Nat} {cs : Array Value} {v : Value} (h : o.op = .field t x f) (hx : ρ x = .agg cs) (hr : pureRun P (Instr.field t (.agg cs) f) = some v) : FOp P ρ o v
  | indexS {t e : TypeId} {x ix : Operand} {b i len cap sz : Nat} {k : IntKind} {n : Int} (h : o.op = .indexAddr t x ix) (hu : P.underlying t = some (.slice e)) (hs : sz? P e = some sz) (hx : ρ x = .slice (some ⟨b, i, none⟩) len cap)
      (hi : ρ ix = .int k n) (h0 : 0 ≤ n) (h1 : n < len) : FOp P ρ o (.pointer (some ⟨b, i + n.toNat * sz, none⟩))
  | indexA {t e : TypeId} {x ix : Operand} {b i len sz : Nat} {k : IntKind} {n : Int} (h : o.op = .indexAddr t x ix) (hu : P.underlying t = some (.array len e)) (hs : sz? P e = some sz) (hx : ρ x = .pointer (some ⟨b, i, none⟩))
      (hi : ρ ix = .int k n) (h0 : 0 ≤ n) (h1 : n < len) : FOp P ρ o (.pointer (some ⟨b, i + n.toNat * sz, none⟩))
  | index {t e : TypeId} {x ix : Operand} {len sz : Nat} {k : IntKind} {n : Int} {cs : Array Value} {v : Value} (h : o.op = .index t x ix) (hu : P.underlying t = some (.array len e)) (hs : sz? P e = some sz) (hx : ρ x = .agg cs)
      (hi : ρ ix = .int k n) (h0 : 0 ≤ n) (h1 : n < len) (hr : pureRun P (part e cs (n.toNat * sz)) = some v) : FOp P ρ o v
  | extract {x : Operand} {i : Nat} {vs : Array Value} {v : Value} (h : o.op = .extract x i) (hx : ρ x = .tuple vs) (hv : vs[i]? = some v) : FOp P ρ o v
  | lenS {x : Operand} {t e : TypeId} {a : Option Addr} {n c : Nat} (h : o.op = .call { callee := .builtin .len, args := #[x], argTypes := #[t] }) (hu : P.underlying t = some (.slice e)) (hx : ρ x = .slice a n c) : FOp P ρ o (.int .i64 n)
  | makeFunc {fn : Fn} {a b : Array Operand} (h : o.op = .makeFunc fn a b) : FOp P ρ o (.func fn (a.map ρ) (b.map ρ))
  | makeIface {t : TypeId} {x : Operand} (h : o.op = .makeInterface t x) (hc : P.concrete t = true) : FOp P ρ o (.iface t (ρ x))
  | eqNil {t e yt : TypeId} {x y : Operand} {a : Option Addr} {n c : Nat} (h : o.op = .binOp .eql t x y yt) (hu : P.underlying t = some (.slice e)) (hx : ρ x = .slice a n c) (hy : ρ y = .slice none 0 0) : FOp P ρ o (.bool a.isNone)
  | neNil {t e yt : TypeId} {x y : Operand} {a : Option Addr} {n c : Nat} (h : o.op = .binOp .neq t x y yt) (hu : P.underlying t = some (.slice e)) (hx : ρ x = .slice a n c) (hy : ρ y = .slice none 0 0) : FOp P ρ o (.bool (!a.isNone))
theorem AR.map {μ : Mu} {ρ ρ' : Operand → Value} (xs : Array Operand) (h : ∀ x ∈ xs, VR μ (ρ x) (ρ' x)) : AR μ (xs.map ρ) (xs.map ρ') := by
  refine ⟨by simp, fun i v v' hv hv' => ?_⟩
  simp only [Array.getElem?_map, Option.map_eq_some_iff] at hv hv'
  obtain ⟨x, hx, rfl⟩ := hv
  obtain ⟨y, hy, rfl⟩ := hv'
  rw [hx] at hy
  obtain rfl := Option.some.inj hy
  exact h x (Array.mem_of_getElem? hx)
theorem VR.int_inv {μ : Mu} {k : IntKind} {n : Int} {v : Value} (h : VR μ (.int k n) v) : v = .int k n := by cases h; rfl
theorem VR.bool_inv {μ : Mu} {b : Bool} {v : Value} (h : VR μ (.bool b) v) : v = .bool b := by cases h; rfl
theorem VR.ptr_inv {μ : Mu} {b i : Nat} {v : Value} (h : VR μ (.pointer (some ⟨b, i, none⟩)) v) : ∃ k, μ b = some k ∧ v = .pointer (some ⟨k.g, k.o + i, none⟩) := by
  cases h with
  | ptr h => exact ⟨_, h, rfl⟩
theorem VR.agg_inv {μ : Mu} {cs : Array Value} {v : Value} (h : VR μ (.agg cs) v) : ∃ cs', v = .agg cs' ∧ AR μ cs cs' := by
  cases h with
  | agg hl h => exact ⟨_, rfl, hl, h⟩
theorem VR.tuple_inv {μ : Mu} {cs : Array Value} {v : Value} (h : VR μ (.tuple cs) v) : ∃ cs', v = .tuple cs' ∧ AR μ cs cs' := by
  cases h with
  | tuple hl h => exact ⟨_, rfl, hl, h⟩
theorem VR.slice_inv {μ : Mu} {b i len cap : Nat} {v : Value} (h : VR μ (.slice (some ⟨b, i, none⟩) len cap) v) (h0 : 0 < len) :
    ∃ k cap', μ b = some k ∧ v = .slice (some ⟨k.g, k.o + i, none⟩) len cap' ∧ len ≤ cap ∧ cap ≤ cap' ∧ (k.loose = false → cap' = cap) ∧ (k.loose = true → k.o + i + cap' * k.sz ≤ k.N) := by
  cases h with
  | void => omega
  | empty => omega
  | slice h hc hl hcc hx hN => exact ⟨_, _, h, rfl, hl, hcc, hx, hN⟩
theorem VR.slice_len {μ : Mu} {a : Option Addr} {len cap : Nat} {v : Value} (h : VR μ (.slice a len cap) v) : ∃ a' cap', v = .slice a' len cap' ∧ len ≤ cap' ∧ len ≤ cap ∧ cap ≤ cap' ∧ a'.isNone = a.isNone := by
  cases h with
  | nils => exact ⟨_, _, rfl, Nat.le_refl _, Nat.le_refl _, Nat.le_refl _, rfl⟩
  | void => exact ⟨_, _, rfl, Nat.le_refl _, Nat.le_refl _, Nat.le_refl _, rfl⟩
  | empty => exact ⟨_, _, rfl, Nat.zero_le _, Nat.le_refl _, Nat.zero_le _, rfl⟩
  | slice h hc hl hcc hx hN => exact ⟨_, _, rfl, Nat.le_trans hl hcc, hl, hcc, rfl⟩
theorem addr_add {g o n : Nat} : (⟨g, o, none⟩ : Addr).add n = ⟨g, o + n, none⟩ := by unfold Addr.add; split <;> simp_all
theorem run_equalIn_nil {P : Program} (w : World) (d : Nat) (t e : TypeId) (a : Option Addr) (n c : Nat) (h : P.underlying t = some (.slice e)) :
    (Op.equalIn (d + 1) t (.slice a n c) (.slice none 0 0)).run P w = .ok a.isNone w := by
  cases a <;> simp [Op.equalIn, run_underlying h]
theorem run_eq_nil {P : Program} (w : World) (t e : TypeId) (a : Option Addr) (n c : Nat) (h : P.underlying t = some (.slice e)) :
    (binOp .eql t (.slice a n c) (.slice none 0 0)).run P w = .ok (.bool a.isNone) w := by
  simp only [binOp]
  simp [Op.equal, Op.maxDepth, run_equalIn_nil w 9999 t e a n c h]
theorem run_ne_nil {P : Program} (w : World) (t e : TypeId) (a : Option Addr) (n c : Nat) (h : P.underlying t = some (.slice e)) :
    (binOp .neq t (.slice a n c) (.slice none 0 0)).run P w = .ok (.bool (!a.isNone)) w := by
  simp only [binOp]
  simp [Op.equal, Op.maxDepth, run_equalIn_nil w 9999 t e a n c h]
theorem fop_sim {P : Program} {ρ ρ' : Operand → Value} {o : Oper} {v : Value} {μ : Mu} (h : FOp P ρ o v) (hρ : ∀ x ∈ o.op.operands, VR μ (ρ x) (ρ' x)) (w : World) :
    ∃ v', (execOp ρ' o).run P w = .ok (.value v') w ∧ VR μ v v' := by
  cases h with
  | move h => exact ⟨_, by simp [execOp, h], hρ _ (by simp [h, Op.operands])⟩
  | assign h => exact ⟨_, by simp [execOp, h], hρ _ (by simp [h, Op.operands])⟩
  | pick h hc =>
    rename_i c a b t
    have h1 := (hc ▸ hρ c (by simp [h, Op.operands])).bool_inv
    refine ⟨if t then ρ' a else ρ' b, by simp [execOp, h, h1, asBool], ?_⟩
    cases t
    · exact hρ b (by simp [h, Op.operands])
    · exact hρ a (by simp [h, Op.operands])
  | pure hF hf hv h =>
    have he : execOp ρ o = execOp ρ' o := by
      refine execOp_congr o (fun cs b e => ?_) fun x hx => (flat_eq (by simpa using Array.all_eq_true'.1 hf x hx) (hρ x hx)).symm
      simp [isF, e] at hF
    exact ⟨v, pureRun_run _ _ (he ▸ h) w, flat_refl μ hv⟩
  | build h hz hzf hr =>
    rename_i t ps z
    obtain ⟨v', h1, h2⟩ := build_sim (ρ' := ρ') hz hzf (fun p hp => hρ p.2 (by simp [h, Op.operands]; exact ⟨p.1, by simpa using hp⟩)) hr
    exact ⟨v', by simp [execOp, h, pureRun_run _ _ h1 w], h2⟩
  | nilCheck h hx =>
    rename_i x a
    have h1 := hρ x (by simp [h, Op.operands])
    rw [hx] at h1 ⊢
    obtain ⟨a', he⟩ : ∃ a', ρ' x = .pointer (some a') := by
      generalize ρ' x = u at h1
      cases h1 <;> exact ⟨_, rfl⟩
    exact ⟨ρ' x, by simp [execOp, h, he], h1⟩
  | fieldAddr h hu hf hs hx =>
    rename_i s x f b i n fs fd
    obtain ⟨k, hk, he⟩ := (hx ▸ hρ x (by simp [h, Op.operands])).ptr_inv
    refine ⟨_, ?_, .ptr (i := i + fd.offset) hk⟩
    simp [execOp, h, he, Instr.fieldAt, run_underlying hu, hf, Instr.sureAddr, fieldPlace, run_sizeOf? hs, addr_add, Nat.add_assoc]
  | field h hx hr =>
    rename_i t x f cs
    obtain ⟨cs', he, har⟩ := (hx ▸ hρ x (by simp [h, Op.operands])).agg_inv
    unfold Instr.field at hr
    simp only [pureRun_bind, pureRun_underlying] at hr
    cases hu : P.underlying t with
    | none => simp [hu] at hr
    | some d =>
      simp only [hu, Option.bind_some] at hr
      cases d with
      | struct fields =>
        simp only at hr
        cases hfd : fields[f]? with
        | none => simp [hfd, pureRun, stuck] at hr
        | some fd =>
          simp only [hfd, asAgg, pureRun_bind, pureRun_pure, Option.bind_some] at hr
          obtain ⟨v', h1, h2⟩ := part_sim har hr
          exact ⟨v', by simp [execOp, h, he, Instr.field, run_underlying hu, hfd, asAgg, pureRun_run _ _ h1 w], h2⟩
      | _ => simp [pureRun, stuck] at hr
  | indexS h hu hs hx hi h0 h1 =>
    rename_i t e x ix b i len cap sz k n
    obtain ⟨kb, cap', hk, he, -⟩ := (hx ▸ hρ x (by simp [h, Op.operands])).slice_inv (by omega)
    have hi' := (hi ▸ hρ ix (by simp [h, Op.operands])).int_inv
    refine ⟨_, ?_, .ptr (i := i + n.toNat * sz) hk⟩
    simp [execOp, h, he, hi', Instr.indexAt, asIntOf, run_underlying hu, run_sizeOf? hs, h0, h1, addr_add, Nat.add_assoc]
  | indexA h hu hs hx hi h0 h1 =>
    rename_i t e x ix b i len sz k n
    obtain ⟨kb, hk, he⟩ := (hx ▸ hρ x (by simp [h, Op.operands])).ptr_inv
    have hi' := (hi ▸ hρ ix (by simp [h, Op.operands])).int_inv
    refine ⟨_, ?_, .ptr (i := i + n.toNat * sz) hk⟩
    simp [execOp, h, he, hi', Instr.indexAt, Instr.sureAddr, asIntOf, run_underlying hu, run_sizeOf? hs, h0, h1, addr_add, Nat.add_assoc]
  | index h hu hs hx hi h0 h1 hr =>
    rename_i t e x ix len sz k n cs
    obtain ⟨cs', he, har⟩ := (hx ▸ hρ x (by simp [h, Op.operands])).agg_inv
    have hi' := (hi ▸ hρ ix (by simp [h, Op.operands])).int_inv
    obtain ⟨v', hp, h2⟩ := part_sim har hr
    exact ⟨v', by simp [execOp, h, he, hi', Instr.index, asIntOf, run_underlying hu, run_sizeOf? hs, h0, h1, pureRun_run _ _ hp w], h2⟩
  | extract h hx hv =>
    rename_i x i vs
    obtain ⟨cs', he, har⟩ := (hx ▸ hρ x (by simp [h, Op.operands])).tuple_inv
    obtain ⟨v', h1, h2⟩ := har.get hv
    exact ⟨v', by simp [execOp, h, he, Instr.extract, h1], h2⟩
  | lenS h hu hx =>
    rename_i x t e a n c
    obtain ⟨a', c', he, -⟩ := (hx ▸ hρ x (by simp [h, Op.operands, Call.operands])).slice_len
    exact ⟨_, by simp [execOp, h, he, resolve, invoke, builtin, Builtin.len_, run_underlying hu, goInt], .int _ _⟩
  | makeFunc h =>
    rename_i fn a b
    have h1 := AR.map a (μ := μ) (ρ := ρ) (ρ' := ρ') fun x hx => hρ x (by simp [h, Op.operands, hx])
    have h2 := AR.map b (μ := μ) (ρ := ρ) (ρ' := ρ') fun x hx => hρ x (by simp [h, Op.operands, hx])
    exact ⟨_, by simp [execOp, h, Instr.makeFunc], .func fn h1.1 h1.2 h2.1 h2.2⟩
  | makeIface h hc =>
    rename_i t x
    exact ⟨_, by simp [execOp, h, run_makeInterface w t _ hc], .iface t (hρ x (by simp [h, Op.operands]))⟩
  | eqNil h hu hx hy =>
    rename_i t e yt x y a n c
    obtain ⟨a', c', he, -, -, -, hn⟩ := (hx ▸ hρ x (by simp [h, Op.operands])).slice_len
    have hy' := flat1_eq rfl (hy ▸ hρ y (by simp [h, Op.operands]))
    refine ⟨.bool a.isNone, ?_, .bool _⟩
    rw [← hn]
    simp [execOp, h, he, hy', eqGuard, run_eq_nil w t e a' n c' hu]
  | neNil h hu hx hy =>
    rename_i t e yt x y a n c
    obtain ⟨a', c', he, -, -, -, hn⟩ := (hx ▸ hρ x (by simp [h, Op.operands])).slice_len
    have hy' := flat1_eq rfl (hy ▸ hρ y (by simp [h, Op.operands]))
    refine ⟨.bool (!a.isNone), ?_, .bool _⟩
    rw [← hn]
    simp [execOp, h, he, hy', eqGuard, run_ne_nil w t e a' n c' hu]
def aggB (P : Program) (t : TypeId) : Option Bool := (P.underlying t).map fun d => match d with | .struct _ | .array _ _ => true | _ => false
theorem run_isAgg? {P : Program} {t : TypeId} {b : Bool} (h : aggB P t = some b) (w : World) : (isAgg t).run P w = .ok b w := pureRun_run _ _ (by rw [pureRun_isAgg]; exact h) w
def SObj.elem? : SObj → Option TypeId
  | .own e _ _ => some e
  | .ro e _ => some e
  | .dead => none
theorem Sim.cell {P : Program} {base : Nat} {μ : Mu} {H : SHeap} {w : World} (h : Sim P base μ H w) {b j : Nat} {k : Bk} {x : SObj} {cs : List Value} {v : Value} (hb : μ b = some k) (hx : H[b]? = some x) (hc : x.cells? = some cs)
    (hj : cs[j]? = some v) : ∃ v', w.cell? ⟨k.g, k.o + j, none⟩ = some v' ∧ VR μ v v' := by
  cases h.blk b k x hb hx with
  | own hbg hl hi hs hg hN hf hfit hv =>
    simp only [SObj.cells?, Option.some.injEq] at hc
    subst hc
    obtain ⟨v', h1, h2⟩ := hv j v hj
    exact ⟨v', by simp [World.cell?, hg, h1], h2⟩
  | ro hi hs hv hsz =>
    simp only [SObj.cells?, Option.some.injEq] at hc
    subst hc
    exact hv j v hj
  | dead => simp [SObj.cells?] at hc
theorem Sim.cells {P : Program} {base : Nat} {μ : Mu} {H : SHeap} {w : World} (h : Sim P base μ H w) {b i n : Nat} {k : Bk} {x : SObj} {cs : List Value} (hb : μ b = some k) (hx : H[b]? = some x) (hc : x.cells? = some cs)
    (hfit : i + n ≤ cs.length) : ∃ vs : List Value, vs.length = n ∧ (∀ (j : Nat) (v : Value), vs[j]? = some v → w.cell? ((⟨k.g, k.o + i, none⟩ : Addr).add j) = some v) ∧ LR μ ((cs.drop i).take n) vs := by
  have key : ∀ j, j < n → ∃ v v', cs[i + j]? = some v ∧ w.cell? ⟨k.g, k.o + (i + j), none⟩ = some v' ∧ VR μ v v' := fun j hj => by
    have hlt : i + j < cs.length := by omega
    obtain ⟨v', h1, h2⟩ := h.cell hb hx hc (gtE hlt)
    exact ⟨_, v', gtE hlt, h1, h2⟩
  refine ⟨(List.range n).map fun j => (w.cell? ⟨k.g, k.o + (i + j), none⟩).getD undef, by simp, fun j v hj => ?_, ?_, fun j v v' hv hv' => ?_⟩
  · have hlt : j < n := by have := (gsI.1 hj).1; simpa using this
    obtain ⟨_, v', _, h1, _⟩ := key j hlt
    simp [hlt, h1] at hj
    rw [addr_add, Nat.add_assoc, h1, hj]
  · simp; omega
  · have hlt : j < n := by have := (gsI.1 hv').1; simpa using this
    obtain ⟨u, u', h0, h1, h2⟩ := key j hlt
    simp [hlt, h1] at hv'
    rw [List.getElem?_take_of_lt hlt, List.getElem?_drop, h0] at hv
    cases hv
    subst hv'
    exact h2
def spl (cs : List Value) (i : Nat) (vs : List Value) : List Value := cs.take i ++ vs ++ cs.drop (i + vs.length)
theorem spl_length {cs vs : List Value} {i : Nat} (h : i + vs.length ≤ cs.length) : (spl cs i vs).length = cs.length := by simp [spl]; omega
theorem spl_nil (cs : List Value) (i : Nat) : spl cs i [] = cs := by simp [spl]
theorem spl_one {cs : List Value} {i : Nat} (v : Value) (h : i < cs.length) : spl cs i [v] = cs.set i v := by
  simp only [spl, List.length_cons, List.length_nil]
  rw [List.set_eq_take_append_cons_drop, if_pos h]
  simp
theorem spl_cons (cs vs : List Value) (i : Nat) (v : Value) (h : i + 1 + vs.length ≤ cs.length) : spl (cs.set i v) (i + 1) vs = spl cs i (v :: vs) := by
  simp only [spl, List.length_cons]
  rw [List.set_eq_take_append_cons_drop, if_pos (by omega)]
  have h1 : (cs.take i).length = i := by simp; omega
  have e1 : (cs.take i ++ v :: cs.drop (i + 1)).take (i + 1) = cs.take i ++ [v] := by
    rw [List.take_append, List.take_of_length_le (by omega), h1]
    simp [show i + 1 - i = 1 by omega]
  have e2 : (cs.take i ++ v :: cs.drop (i + 1)).drop (i + 1 + vs.length) = cs.drop (i + (vs.length + 1)) := by
    rw [List.drop_append, List.drop_eq_nil_of_le (by omega), h1, List.nil_append, show i + 1 + vs.length - i = vs.length + 1 by omega, List.drop_succ_cons, List.drop_drop]
    congr 1
    omega
  rw [e1, e2]
  simp
theorem spl_get {cs vs : List Value} {i j : Nat} (h : i + vs.length ≤ cs.length) : (spl cs i vs)[j]? = if i ≤ j ∧ j < i + vs.length then vs[j - i]? else cs[j]? := by
  simp only [spl]
  have h1 : (cs.take i).length = i := by simp; omega
  by_cases hj : j < i
  · rw [if_neg (by omega), List.append_assoc, List.getElem?_append_left (by omega), List.getElem?_take_of_lt hj]
  · by_cases hj2 : j < i + vs.length
    · rw [if_pos ⟨by omega, hj2⟩, List.append_assoc, List.getElem?_append_right (by omega), h1, List.getElem?_append_left (by omega)]
    · rw [if_neg (by omega), List.getElem?_append_right (by simp; omega), List.getElem?_drop]
      congr 1
      simp
      omega
theorem spl_sim {μ : Mu} {cs : List Value} {cur : Array Value} {vs vs' : List Value} {o i : Nat} (hv : ∀ (j : Nat) (v : Value), cs[j]? = some v → ∃ v', cur[o + j]? = some v' ∧ VR μ v v') (hl : LR μ vs vs') (hfit : i + vs.length ≤ cs.length)
    (hcur : o + cs.length ≤ cur.size) : ∀ (j : Nat) (v : Value), (spl cs i vs)[j]? = some v → ∃ v', (spl cur.toList (o + i) vs').toArray[o + j]? = some v' ∧ VR μ v v' := by
  intro j v hj
  rw [spl_get hfit] at hj
  have e : (spl cur.toList (o + i) vs').toArray[o + j]? = (spl cur.toList (o + i) vs')[o + j]? := by simp
  rw [e, spl_get (by rw [← hl.1]; simp; omega), ← hl.1]
  split at hj
  · rename_i hc
    rw [if_pos (by omega), show o + j - (o + i) = j - i by omega]
    exact hl.get hj
  · rename_i hc
    rw [if_neg (by omega)]
    obtain ⟨v', h1, h2⟩ := hv j v hj
    exact ⟨v', by simpa using h1, h2⟩
theorem setCell_put {w : World} {g p : Nat} {cur : Array Value} {e : TypeId} {fr : Nat × Nat} (hg : w.heap[g]? = some (.cells cur e fr)) (v : Value) :
    w.setCell ⟨g, p, none⟩ v = putObj w g (.cells (cur.setIfInBounds p v) e fr) := by
  obtain ⟨hlt, he⟩ := Array.getElem?_eq_some_iff.1 hg
  simp only [World.setCell, putObj]
  congr 1
  apply Array.ext_getElem?
  intro i
  rw [Array.getElem?_modify, Array.getElem?_setIfInBounds]
  split
  · rename_i hi
    subst hi
    rw [hg]
    rfl
  · rfl
theorem putObj_twice (w : World) (g : Nat) (x y : Obj) : putObj (putObj w g x) g y = putObj w g y := by simp [putObj]
theorem putObj_self {w : World} {g : Nat} {x : Obj} (h : w.heap[g]? = some x) : putObj w g x = w := by
  obtain ⟨hlt, he⟩ := Array.getElem?_eq_some_iff.1 h
  unfold putObj
  have : w.heap.setIfInBounds g x = w.heap := by
    apply Array.ext_getElem?
    intro i
    rw [Array.getElem?_setIfInBounds]
    split
    · rename_i hi; subst hi; rw [h]
    · rfl
  rw [this]
theorem run_store_list {P : Program} (g off : Nat) (e : TypeId) (fr : Nat × Nat) : ∀ (vs : List Value) (i : Nat) (cur : Array Value) (w : World), w.heap[g]? = some (.cells cur e fr) → UnF fr cur.size → off + i + vs.length ≤ cur.size →
    (∀ v ∈ vs, v.oneCell' = true) → (storeCells ⟨g, off, none⟩ vs i).run P w = .ok () (putObj w g (.cells (spl cur.toList (off + i) vs).toArray e fr))
  | [], i, cur, w, hg, _, _, _ => by
    rw [spl_nil, putObj_self (by simpa using hg)]
    rfl
  | v :: vs, i, cur, w, hg, hf, hfit, h1 => by
    simp only [List.length_cons] at hfit
    have hlt : off + i < cur.size := by omega
    have hcell : w.cell? ⟨g, off + i, none⟩ = some cur[off + i] := by simp [World.cell?, hg, hlt]
    have hfz : w.frozen? ⟨g, off + i, none⟩ = false := by
      have := hf (off + i) hlt
      simp only [World.frozen?, hg]
      simpa using this
    have hs : (store ((⟨g, off, none⟩ : Addr).add i) v).run P w = .ok () (putObj w g (.cells (cur.setIfInBounds (off + i) v) e fr)) := by
      rw [addr_add, run_store P w _ v _ (h1 v List.mem_cons_self), hcell]
      simp only [hfz]
      rw [← setCell_put hg]
      rfl
    have hg' : (putObj w g (.cells (cur.setIfInBounds (off + i) v) e fr)).heap[g]? = some (.cells (cur.setIfInBounds (off + i) v) e fr) := putObj_same w _ _ (Array.getElem?_eq_some_iff.1 hg).1
    have ih := run_store_list (P := P) g off e fr vs (i + 1) (cur.setIfInBounds (off + i) v) _ hg' (by simpa using hf) (by simp; omega) fun u hu => h1 u (List.mem_cons_of_mem _ hu)
    simp only [storeCells, Sem.run_bind, hs, Result.andThen_ok, ih, putObj_twice]
    congr 4
    rw [← spl_cons _ _ _ _ (by simp; omega)]
    simp [Nat.add_assoc]
def strCells (s : ByteArray) : List Value := s.data.toList.map fun b => .int .u8 b.toNat
inductive Src (H : SHeap) (sz : Nat) : Value → Nat → Nat → List Value → Prop
  | zeroS {a : Option Addr} {m c : Nat} : Src H sz (.slice a m c) m 0 []
  | row {b i n m c : Nat} {x : SObj} {cs : List Value} (hx : H[b]? = some x) (hc : x.cells? = some cs) (hn : 0 < n) (hm : n ≤ m) (hfit : i + n * sz ≤ cs.length) : Src H sz (.slice (some ⟨b, i, none⟩) m c) m n ((cs.drop i).take (n * sz))
  | str {s : ByteArray} (h1 : sz = 1) : Src H sz (.string s) s.size s.size (strCells s)
theorem src_sim {P : Program} {base : Nat} {μ : Mu} {H : SHeap} {w : World} {sz m n : Nat} {v v' : Value} {news : List Value} (hs : Src H sz v m n news) (h : Sim P base μ H w) (hv : VR μ v v') :
    (Builtin.lenOf v').run P w = .ok m w ∧ news.length = n * sz ∧ ∃ news' : List Value, (∀ w1 : World, w1.heap = w.heap → (Builtin.firstCells sz n v').run P w1 = .ok news'.toArray w1) ∧ LR μ news news' := by
  cases hs with
  | zeroS =>
    obtain ⟨a', c', rfl, -⟩ := hv.slice_len
    refine ⟨by simp [Builtin.lenOf], by simp, [], fun w1 _ => ?_, LR.nil μ⟩
    cases a' <;> simp [Builtin.firstCells, loadCells, loadCellsFrom]
  | row hx hc hn hm hfit =>
    rename_i b i c x cs
    obtain ⟨k, cap', hk, rfl, -⟩ := hv.slice_inv (by omega)
    obtain ⟨vs, hl, hcell, hr⟩ := h.cells hk hx hc hfit
    refine ⟨by simp [Builtin.lenOf], by simp; omega, vs, fun w1 hw => ?_, hr⟩
    simp only [Builtin.firstCells]
    rw [← hl]
    exact run_loadCells_list w1 _ vs fun j u hu => by rw [cell?_of_heap (w := w) (by rw [hw])]; exact hcell j u hu
  | str h1 =>
    rename_i s
    have he : v' = .string s := by cases hv; rfl
    subst he
    refine ⟨by simp [Builtin.lenOf], by rw [h1, Nat.mul_one]; unfold strCells; rw [List.length_map]; rfl, strCells s, fun w1 _ => ?_, rfl, fun i v v' hx hy => ?_⟩
    · simp only [Builtin.firstCells, strCells]
      have e : (s.extract 0 s.size).data = s.data := by
        rw [ByteArray.data_extract]; exact Array.extract_size
      rw [e]
      simp only [Sem.run_pure]
      congr 1
      apply Array.ext'
      simp
    · rw [hx] at hy
      obtain rfl := Option.some.inj hy
      simp only [strCells, List.getElem?_map, Option.map_eq_some_iff] at hx
      obtain ⟨b, -, rfl⟩ := hx
      exact .int _ _
def Does (P : Program) (base : Nat) (μ : Mu) (H : SHeap) (w : World) (s : Sem Value) (v : Value) (H' : SHeap) : Prop :=
  ∃ μ1 v' w1, s.run P w = .ok v' w1 ∧ VR μ1 v v' ∧ Sim P base μ1 H' w1 ∧ Step μ H w μ1 H' w1
theorem Sim.allocE {P : Program} {base : Nat} {μ : Mu} {H : SHeap} {w : World} (h : Sim P base μ H w) {e : TypeId} {n : Nat} (hs : sz? P e = some n) {cs : List Value} {cur : Array Value} {fr : Nat × Nat} (l : Bool) (hf : UnF fr cur.size) (hfit : cs.length ≤ cur.size)
    (hv : ∀ (i : Nat) (v : Value), cs[i]? = some v → ∃ v', cur[i]? = some v' ∧ VR μ v v') :
    Sim P base (μ.put H.length ⟨w.heap.size, 0, cur.size, n, l⟩) (H ++ [.own e l cs]) (w.alloc (.cells cur e fr)) ∧ Step μ H w (μ.put H.length ⟨w.heap.size, 0, cur.size, n, l⟩) (H ++ [.own e l cs]) (w.alloc (.cells cur e fr)) := by
  unfold sz? at hs
  obtain ⟨inf, hi, hn⟩ := Option.map_eq_some_iff.1 hs
  exact h.alloc hi hn hf hfit hv
theorem UnF.zero (n : Nat) : UnF (0, 0) n := fun j _ h => by simp at h
theorem Sim.junk {P : Program} {base : Nat} {μ : Mu} {H : SHeap} {w : World} (h : Sim P base μ H w) (x : Obj) : Sim P base μ H (w.alloc x) ∧ Step μ H w μ H (w.alloc x) := by
  have hold : ∀ g, g < w.heap.size → (w.alloc x).heap[g]? = w.heap[g]? := fun g hg => heap_alloc_old w _ hg
  refine ⟨⟨h.pos, by simp; have := h.size; omega, h.dom, fun b k y hb hy => (h.blk b k y hb hy).keep (fun _ _ h => h) (fun hn => hold _ ((h.blk b k y hb hy).lt hn)) (by simp), h.inj⟩, ?_⟩
  exact ⟨fun _ _ h => h, fun _ _ h => .inl h, Nat.le_refl _, fun b k hb ho => .inr ⟨b, k, hb, ho, rfl⟩, rfl, rfl, rfl, by simp, fun g hg _ => hold g hg⟩
theorem LR.ofArray {μ : Mu} {xs ys : Array Value} (h : AR μ xs ys) : ∀ (i : Nat) (v : Value), xs.toList[i]? = some v → ∃ v', ys[i]? = some v' ∧ VR μ v v' := fun i v hv => by
  obtain ⟨v', h1, h2⟩ := h.toList.get hv
  exact ⟨v', by simpa using h1, h2⟩
section
variable {P : Program} {base : Nat} {μ : Mu} {H : SHeap} {w : World}
theorem does_alloc {e : TypeId} {z : Value} {n : Nat} (h : Sim P base μ H w) (hz : zero? P e = some z) (hzf : flat z = true) (hs : sz? P e = some n) :
    Does P base μ H w (Instr.alloc e true (.tuple #[])) (.pointer (some ⟨H.length, 0, none⟩)) (H ++ [.own e false z.cells.toList]) := by
  obtain ⟨h1, h2⟩ := h.allocE (cur := z.cells) (fr := (0, 0)) hs false (UnF.zero _) (by simp) (LR.ofArray (zero_flat hzf))
  refine ⟨_, .pointer (some ⟨w.heap.size, 0, none⟩), _, ?_, ?_, h1, h2⟩
  · simp [Instr.alloc, run_zeroValue? hz, newVar, newRow]
  · exact .ptr (k := ⟨w.heap.size, 0, z.cells.size, n, false⟩) (Mu.put_same _ _ _)
theorem does_box {e : TypeId} {v v' : Value} {n : Nat} (h : Sim P base μ H w) (hv : VR μ v v') (hs : sz? P e = some n) :
    Does P base μ H w (Instr.box e v') (.pointer (some ⟨H.length, 0, none⟩)) (H ++ [.own e false v.cells.toList]) := by
  obtain ⟨h1, h2⟩ := h.allocE (cur := v'.cells) (fr := (0, 0)) (cs := v.cells.toList) hs false (UnF.zero _) (by simp [hv.cells.1]) (LR.ofArray hv.cells)
  refine ⟨_, .pointer (some ⟨w.heap.size, 0, none⟩), _, ?_, ?_, h1, h2⟩
  · simp [Instr.box, newVar, newRow]
  · exact .ptr (k := ⟨w.heap.size, 0, v'.cells.size, n, false⟩) (Mu.put_same _ _ _)
theorem does_load1 {t : TypeId} {b i : Nat} {X : SObj} {cs : List Value} {v v' : Value} (h : Sim P base μ H w) (ha : aggB P t = some false) (hx : VR μ (.pointer (some ⟨b, i, none⟩)) v') (hX : H[b]? = some X) (hc : X.cells? = some cs) (hv : cs[i]? = some v) :
    Does P base μ H w (Instr.loadAt t v') v H := by
  obtain ⟨k, hk, rfl⟩ := hx.ptr_inv
  obtain ⟨u, h1, h2⟩ := h.cell hk hX hc hv
  exact ⟨μ, u, w, by simp [Instr.loadAt, Instr.sureAddr, loadVar, run_isAgg? ha, h1], h2, h, Step.refl _ _ _⟩
theorem does_loadA {t : TypeId} {b i n : Nat} {X : SObj} {cs : List Value} {v' : Value} (h : Sim P base μ H w) (ha : aggB P t = some true) (hs : sz? P t = some n) (hx : VR μ (.pointer (some ⟨b, i, none⟩)) v') (hX : H[b]? = some X) (hc : X.cells? = some cs)
    (hfit : i + n ≤ cs.length) : Does P base μ H w (Instr.loadAt t v') (.agg ((cs.drop i).take n).toArray) H := by
  obtain ⟨k, hk, rfl⟩ := hx.ptr_inv
  obtain ⟨vs, hl, hcell, hr⟩ := h.cells hk hX hc hfit
  have hrun := run_loadCells_list (P := P) w ⟨k.g, k.o + i, none⟩ vs hcell
  rw [hl] at hrun
  exact ⟨μ, .agg vs.toArray, w, by simp [Instr.loadAt, Instr.sureAddr, loadVar, run_isAgg? ha, run_sizeOf? hs, hrun], .agg hr.toArray.1 hr.toArray.2, h, Step.refl _ _ _⟩
theorem put_cells {b i : Nat} {k : Bk} {e : TypeId} {l : Bool} {cs vs vs' : List Value} (h : Sim P base μ H w) (hb : μ b = some k) (hX : H[b]? = some (.own e l cs)) (hl : LR μ vs vs') (hfit : i + vs.length ≤ cs.length) (h1 : ∀ v ∈ vs, v.oneCell' = true) :
    ∃ w1, (storeCells ⟨k.g, k.o + i, none⟩ vs').run P w = .ok () w1 ∧ Sim P base μ (H.set b (.own e l (spl cs i vs))) w1 ∧ Step μ H w μ (H.set b (.own e l (spl cs i vs))) w1 := by
  cases h.blk b k _ hb hX with
  | own hbg hlo hi hs hg hN hf hfit0 hv =>
    rename_i cur fr inf
    have hcs : (spl cs i vs).length = cs.length := spl_length hfit
    have hlen : vs'.length = vs.length := hl.1.symm
    have h1' : ∀ v ∈ vs', v.oneCell' = true := fun v' hv' => by
      obtain ⟨j, hj⟩ := List.getElem?_of_mem hv'
      have hjlt : j < vs.length := by rw [hl.1]; exact (gsI.1 hj).1
      have := (hl.2 j _ _ (gtE hjlt) hj).oneCell
      rw [this]
      exact h1 _ (List.getElem_mem hjlt)
    have hrun := run_store_list (P := P) k.g (k.o + i) e fr vs' 0 cur w hg (hN ▸ hf) (by omega) h1'
    simp only [Nat.add_zero] at hrun
    have hsim := spl_sim hv hl hfit (by omega)
    obtain ⟨s1, s2⟩ := h.put (cs' := spl cs i vs) (cur' := (spl cur.toList (k.o + i) vs').toArray) hb hX ⟨cur, hg, by rw [List.size_toArray, spl_length (by simp; omega)]; simp⟩ hcs hsim
    exact ⟨_, hrun, s1, s2⟩
theorem does_store {t : TypeId} {b i : Nat} {e : TypeId} {l : Bool} {cs : List Value} {y a' y' : Value} (h : Sim P base μ H w) (hs : sz? P t = some y.cells.size) (ha : VR μ (.pointer (some ⟨b, i, none⟩)) a') (hy : VR μ y y')
    (hX : H[b]? = some (.own e l cs)) (hfit : i + y.cells.size ≤ cs.length) (h1 : (y.cells.toList.all (·.oneCell')) = true) :
    ∃ w1, (Instr.storeAt t a' y').run P w = .ok () w1 ∧ Sim P base μ (H.set b (.own e l (spl cs i y.cells.toList))) w1 ∧ Step μ H w μ (H.set b (.own e l (spl cs i y.cells.toList))) w1 := by
  obtain ⟨k, hk, rfl⟩ := ha.ptr_inv
  obtain ⟨w1, hr, s1, s2⟩ := put_cells (i := i) h hk hX hy.cells.toList (by simpa using hfit) (fun v hv => by simpa using List.all_eq_true.1 h1 v hv)
  have hsz := hy.cells.1
  exact ⟨w1, by simp [Instr.storeAt, Instr.sureAddr, storeVar, run_sizeOf? hs, ← hsz, hr], s1, s2⟩
def loOf (ρ : Operand → Value) : Option Operand → Option Nat
  | none => some 0
  | some x => match ρ x with
    | .int _ n => if 0 ≤ n then some n.toNat else none
    | _ => none
def hiOf (ρ : Operand → Value) (d : Nat) : Option Operand → Option Nat
  | none => some d
  | some x => match ρ x with
    | .int _ n => if 0 ≤ n then some n.toNat else none
    | _ => none
theorem run_sliceBound {P : Program} {w : World} {k : IntKind} {n : Int} {y : Nat} {code : BoundsCode} (h0 : 0 ≤ n) (h1 : n.toNat ≤ y) : (Instr.sliceBound (.int k n) y code).run P w = .ok n.toNat w := by
  have : n ≤ (y : Int) := by omega
  simp [Instr.sliceBound, asIntOf, h0, this]
theorem run_bounds {ρ ρ' : Operand → Value} {lo hi : Option Operand} {len cap l hh : Nat} (hlo : ∀ x, lo = some x → VR μ (ρ x) (ρ' x)) (hhi : ∀ x, hi = some x → VR μ (ρ x) (ρ' x)) (hl : loOf ρ lo = some l) (hh' : hiOf ρ len hi = some hh)
    (h1 : l ≤ hh) (h2 : hh ≤ cap) (w : World) : (Instr.sliceBounds true len cap (lo.map ρ') (hi.map ρ') none).run P w = .ok (l, hh, cap) w := by
  have el : ∀ x, lo = some x → ∃ k n, ρ' x = .int k n ∧ 0 ≤ n ∧ n.toNat = l := fun x hx => by
    have hv := hlo x hx
    subst hx
    simp only [loOf] at hl
    split at hl
    · rename_i k n he
      rw [he] at hv
      split at hl
      · cases hl; exact ⟨k, n, hv.int_inv, by assumption, rfl⟩
      · cases hl
    · cases hl
  have eh : ∀ x, hi = some x → ∃ k n, ρ' x = .int k n ∧ 0 ≤ n ∧ n.toNat = hh := fun x hx => by
    have hv := hhi x hx
    subst hx
    simp only [hiOf] at hh'
    split at hh'
    · rename_i k n he
      rw [he] at hv
      split at hh'
      · cases hh'; exact ⟨k, n, hv.int_inv, by assumption, rfl⟩
      · cases hh'
    · cases hh'
  unfold Instr.sliceBounds
  cases hi with
  | none =>
    have hh2 : len = hh := by simpa [hiOf] using hh'
    subst hh2
    cases lo with
    | none =>
      have hl2 : 0 = l := by simpa [loOf] using hl
      subst hl2
      simp
    | some x =>
      obtain ⟨k, n, e, h0, rfl⟩ := el x rfl
      simp [e, run_sliceBound (P := P) (w := w) (k := k) h0 h1]
  | some y =>
    obtain ⟨k', n', e', h0', rfl⟩ := eh y rfl
    cases lo with
    | none =>
      have hl2 : 0 = l := by simpa [loOf] using hl
      subst hl2
      simp [e', run_sliceBound (P := P) (w := w) (k := k') h0' h2]
    | some x =>
      obtain ⟨k, n, e, h0, rfl⟩ := el x rfl
      simp [e, e', run_sliceBound (P := P) (w := w) (k := k') h0' h2, run_sliceBound (P := P) (w := w) (k := k) h0 h1]
theorem run_bounds3 {ρ ρ' : Operand → Value} {lo hi mx : Operand} {len cap l hh m : Nat} (hlo : VR μ (ρ lo) (ρ' lo)) (hhi : VR μ (ρ hi) (ρ' hi)) (hmx : VR μ (ρ mx) (ρ' mx)) (hl : loOf ρ (some lo) = some l) (hh' : loOf ρ (some hi) = some hh) (hm : loOf ρ (some mx) = some m)
    (h1 : l ≤ hh) (h2 : hh ≤ m) (h3 : m ≤ cap) (w : World) : (Instr.sliceBounds true len cap (some (ρ' lo)) (some (ρ' hi)) (some (ρ' mx))).run P w = .ok (l, hh, m) w := by
  have el : ∀ x q, VR μ (ρ x) (ρ' x) → loOf ρ (some x) = some q → ∃ k n, ρ' x = .int k n ∧ 0 ≤ n ∧ n.toNat = q := fun x q hv hq => by
    simp only [loOf] at hq
    split at hq
    · rename_i k n he
      rw [he] at hv
      split at hq
      · cases hq; exact ⟨k, n, hv.int_inv, by assumption, rfl⟩
      · cases hq
    · cases hq
  obtain ⟨k1, n1, e1, p1, rfl⟩ := el lo l hlo hl
  obtain ⟨k2, n2, e2, p2, rfl⟩ := el hi hh hhi hh'
  obtain ⟨k3, n3, e3, p3, rfl⟩ := el mx m hmx hm
  simp [Instr.sliceBounds, e1, e2, e3, run_sliceBound (P := P) (w := w) (k := k1) p1 h1, run_sliceBound (P := P) (w := w) (k := k2) p2 h2, run_sliceBound (P := P) (w := w) (k := k3) p3 h3]
theorem run_slice_at {t e : TypeId} {sz : Nat} {a : Option Addr} {len cap l hh m : Nat} {lo hi mx : Option Value} (hu : P.underlying t = some (.slice e)) (hs : sz? P e = some sz) (hb : (Instr.sliceBounds true len cap lo hi mx).run P w = .ok (l, hh, m) w) :
    (Instr.sliceAt t (.slice a len cap) lo hi mx).run P w = .ok (.slice (if m = l then a else a.map (·.add (l * sz))) (hh - l) (m - l)) w := by
  simp [Instr.sliceAt, Instr.slice, run_underlying hu, hb, run_sizeOf? hs]
section
variable {ρ ρ' : Operand → Value} {lo hi : Option Operand}
theorem does_slice {t e : TypeId} {sz b i len cap l hh : Nat} {X : SObj} {x' : Value} (h : Sim P base μ H w) (hu : P.underlying t = some (.slice e)) (hs : sz? P e = some sz) (hx : VR μ (.slice (some ⟨b, i, none⟩) len cap) x') (hX : H[b]? = some X) (he : X.elem? = some e)
    (hlo : ∀ x, lo = some x → VR μ (ρ x) (ρ' x)) (hhi : ∀ x, hi = some x → VR μ (ρ x) (ρ' x)) (hl : loOf ρ lo = some l) (hh' : hiOf ρ len hi = some hh) (h1 : l ≤ hh) (h2 : hh ≤ cap) (hlt : l < cap) :
    Does P base μ H w (Instr.sliceAt t x' (lo.map ρ') (hi.map ρ') none) (.slice (some ⟨b, i + l * sz, none⟩) (hh - l) (cap - l)) H := by
  cases hx with
  | void => omega
  | empty => omega
  | slice hk hc hle hcc hxx hN =>
    rename_i k cap'
    have hb := run_bounds (P := P) (cap := cap') hlo hhi hl hh' h1 (by omega) w
    refine ⟨μ, _, w, run_slice_at hu hs hb, ?_, h, Step.refl _ _ _⟩
    rw [if_neg (by omega)]
    simp only [Option.map_some, addr_add, Nat.add_assoc]
    refine .slice hk (by omega) (by omega) (by omega) (fun hf => by have := hxx hf; omega) fun ht => ?_
    have hksz : k.sz = sz := by
      have hblk := h.blk b k X hk hX
      cases hblk with
      | own hbg hlo hi hss hg hN hf hfit0 hv =>
        simp only [SObj.elem?, Option.some.injEq] at he
        subst he
        simp only [sz?, hi, Option.map_some, Option.some.injEq] at hs
        omega
      | ro hi hss hv hsz =>
        simp only [SObj.elem?, Option.some.injEq] at he
        subst he
        simp only [sz?, hi, Option.map_some, Option.some.injEq] at hs
        omega
      | dead => simp [SObj.elem?] at he
    have := hN ht
    rw [hksz] at this ⊢
    have e1 : l * sz + (cap' - l) * sz = cap' * sz := by rw [← Nat.add_mul]; congr 1; omega
    omega
end
end
section
variable {P : Program} {base : Nat} {μ : Mu} {H : SHeap} {w : World} {ρ ρ' : Operand → Value} {lo hi : Option Operand}
theorem does_slice_end {t e : TypeId} {sz b i len cap : Nat} {x' : Value} (h : Sim P base μ H w) (hu : P.underlying t = some (.slice e)) (hs : sz? P e = some sz) (hx : VR μ (.slice (some ⟨b, i, none⟩) len cap) x') (hcap : 0 < cap)
    (hlo : ∀ x, lo = some x → VR μ (ρ x) (ρ' x)) (hhi : ∀ x, hi = some x → VR μ (ρ x) (ρ' x)) (hl : loOf ρ lo = some cap) (hh' : hiOf ρ len hi = some cap) :
    Does P base μ H w (Instr.sliceAt t x' (lo.map ρ') (hi.map ρ') none) (.slice (some ⟨b, i, none⟩) 0 0) H := by
  cases hx with
  | void => omega
  | empty => omega
  | slice hk hc hle hcc hxx hN =>
    rename_i k cap'
    have hb := run_bounds (P := P) (cap := cap') hlo hhi hl hh' (Nat.le_refl _) hcc w
    have hb0 : b ≠ 0 := by have := (h.dom b k hk).1; omega
    refine ⟨μ, _, w, run_slice_at hu hs hb, ?_, h, Step.refl _ _ _⟩
    rw [Nat.sub_self]
    by_cases hm : cap' = cap
    · rw [if_pos hm]; exact .empty hb0 _ _
    · rw [if_neg hm]; exact .empty hb0 _ _
theorem does_slice_zero {t e : TypeId} {sz : Nat} {a : Option Addr} {x' : Value} (h : Sim P base μ H w) (hu : P.underlying t = some (.slice e)) (hs : sz? P e = some sz) (hx : VR μ (.slice a 0 0) x')
    (hlo : ∀ x, lo = some x → VR μ (ρ x) (ρ' x)) (hhi : ∀ x, hi = some x → VR μ (ρ x) (ρ' x)) (hl : loOf ρ lo = some 0) (hh' : hiOf ρ 0 hi = some 0) :
    Does P base μ H w (Instr.sliceAt t x' (lo.map ρ') (hi.map ρ') none) (.slice a 0 0) H := by
  have key : ∀ (a' : Option Addr) (c : Nat), (Instr.sliceAt t (.slice a' 0 c) (lo.map ρ') (hi.map ρ') none).run P w = .ok (.slice a' 0 c) w := fun a' c => by
    rw [run_slice_at hu hs (run_bounds (P := P) (cap := c) hlo hhi hl hh' (Nat.le_refl _) (Nat.zero_le _) w)]
    congr 2
    split
    · rfl
    · cases a' with
      | none => rfl
      | some ad => simp [Addr.add]
  obtain ⟨a', c', rfl, -⟩ := hx.slice_len
  exact ⟨μ, _, w, key _ _, hx, h, Step.refl _ _ _⟩
theorem does_slice3_void {t e : TypeId} {sz len cap l : Nat} {a : Addr} {x' : Value} {lo hi mx : Operand} (h : Sim P base μ H w) (hu : P.underlying t = some (.slice e)) (hs : sz? P e = some sz) (hx : VR μ (.slice (some a) len cap) x')
    (hlo : VR μ (ρ lo) (ρ' lo)) (hhi : VR μ (ρ hi) (ρ' hi)) (hmx : VR μ (ρ mx) (ρ' mx)) (hl : loOf ρ (some lo) = some l) (hh' : loOf ρ (some hi) = some l) (hm : loOf ρ (some mx) = some l) (h3 : l ≤ cap) :
    Does P base μ H w (Instr.sliceAt t x' (some (ρ' lo)) (some (ρ' hi)) (some (ρ' mx))) (.slice (some ⟨0, 0, none⟩) 0 0) H := by
  obtain ⟨a', c', rfl, -, -, h4, h5⟩ := hx.slice_len
  cases a' with
  | none => simp at h5
  | some ad =>
    refine ⟨μ, _, w, run_slice_at hu hs (run_bounds3 (P := P) (cap := c') (len := len) hlo hhi hmx hl hh' hm (Nat.le_refl _) (Nat.le_refl _) (Nat.le_trans h3 h4) w), ?_, h, Step.refl _ _ _⟩
    rw [if_pos rfl, Nat.sub_self]
    exact .void 0 ad
theorem does_slice3_nil {t e : TypeId} {sz : Nat} {x' : Value} {lo hi mx : Operand} (h : Sim P base μ H w) (hu : P.underlying t = some (.slice e)) (hs : sz? P e = some sz) (hx : VR μ (.slice none 0 0) x')
    (hlo : VR μ (ρ lo) (ρ' lo)) (hhi : VR μ (ρ hi) (ρ' hi)) (hmx : VR μ (ρ mx) (ρ' mx)) (hl : loOf ρ (some lo) = some 0) (hh' : loOf ρ (some hi) = some 0) (hm : loOf ρ (some mx) = some 0) :
    Does P base μ H w (Instr.sliceAt t x' (some (ρ' lo)) (some (ρ' hi)) (some (ρ' mx))) (.slice none 0 0) H := by
  cases hx with
  | nils =>
    refine ⟨μ, _, w, run_slice_at hu hs (run_bounds3 (P := P) (cap := 0) (len := 0) hlo hhi hmx hl hh' hm (Nat.le_refl _) (Nat.le_refl _) (Nat.le_refl _) w), ?_, h, Step.refl _ _ _⟩
    exact .nils
theorem Does.void_alloc {s : Sem Value} (h : Sim P base μ H w) {x : Obj} (hr : s.run P w = .ok (.slice (some ⟨w.heap.size, 0, none⟩) 0 0) (w.alloc x)) : Does P base μ H w s (.slice (some ⟨0, 0, none⟩) 0 0) H :=
  ⟨μ, _, _, hr, .void 0 _, (h.junk x).1, (h.junk x).2⟩
theorem Does.new_slice {s : Sem Value} {e : TypeId} {sz len cap cap' : Nat} {cs : List Value} {cur : Array Value} {fr : Nat × Nat} {l : Bool} (h : Sim P base μ H w) (hs : sz? P e = some sz)
    {w0 : World} (hw0 : w0.heap = w.heap) (hos : w0.os = w.os) (htp : w0.tape = w.tape) (hout : w0.output = w.output)
    (hr : s.run P w = .ok (.slice (some ⟨w.heap.size, 0, none⟩) len cap') (w0.alloc (.cells cur e fr))) (hf : UnF fr cur.size) (hfit : cs.length ≤ cur.size) (hv : ∀ (i : Nat) (v : Value), cs[i]? = some v → ∃ v', cur[i]? = some v' ∧ VR μ v v')
    (hc : 0 < cap) (hle : len ≤ cap) (hcc : cap ≤ cap') (hx : l = false → cap' = cap) (hN : l = true → cap' * sz ≤ cur.size) : Does P base μ H w s (.slice (some ⟨H.length, 0, none⟩) len cap) (H ++ [.own e l cs]) := by
  have hsim : Sim P base μ H w0 := h.heap hw0
  have hst : Step μ H w μ H w0 := ⟨fun _ _ h => h, fun _ _ h => .inl h, Nat.le_refl _, fun b k hb ho => .inr ⟨b, k, hb, ho, rfl⟩, hos, htp, hout, by rw [hw0]; exact Nat.le_refl _, fun g _ _ => by rw [hw0]⟩
  obtain ⟨h1, h2⟩ := hsim.allocE (cs := cs) (cur := cur) (fr := fr) hs l hf hfit hv
  refine ⟨_, _, _, hr, ?_, h1, hst.trans h2⟩
  have := VR.slice (μ := μ.put H.length ⟨w0.heap.size, 0, cur.size, sz, l⟩) (b := H.length) (i := 0) (k := ⟨w0.heap.size, 0, cur.size, sz, l⟩) (len := len) (cap := cap) (cap' := cap') (Mu.put_same _ _ _) hc hle hcc hx
    (fun ht => by have := hN ht; simp only; omega)
  simp only [hw0] at this ⊢
  exact this
def made (z : Value) (n : Nat) : List Value := (List.range n).map fun i => z.cells[i % z.cells.size]!
theorem made_toArray (z : Value) (n : Nat) : (Array.range n).map (fun i => z.cells[i % z.cells.size]!) = (made z n).toArray := by
  apply Array.ext'
  simp [made]
theorem made_sim {z : Value} (hz : flat z = true) (hpos : 0 < z.cells.size) (n : Nat) : ∀ (i : Nat) (v : Value), (made z n)[i]? = some v → ∃ v', (made z n).toArray[i]? = some v' ∧ VR μ v v' := fun i v hv => by
  refine ⟨v, by simpa using hv, ?_⟩
  simp only [made, List.getElem?_map, Option.map_eq_some_iff] at hv
  obtain ⟨j, -, rfl⟩ := hv
  have hlt : j % z.cells.size < z.cells.size := Nat.mod_lt _ hpos
  have e : z.cells[j % z.cells.size]! = z.cells[j % z.cells.size] := by simp [hlt]
  rw [e]
  exact (zero_flat hz).2 _ _ _ (Array.getElem?_eq_getElem hlt) (Array.getElem?_eq_getElem hlt)
theorem range0 (f : Nat → Value) : (Array.range 0).map f = #[] := by apply Array.ext'; simp
theorem wrap_small {n : Nat} (h : n ≤ 281474976710656) : IntKind.i64.wrap (n : Int) = n := by
  have := IntWalk.i64_in (n : Int) (by omega)
  exact this
theorem does_make {t e : TypeId} {sz by_ l c : Nat} {kl kc : IntKind} {z : Value} (h : Sim P base μ H w) (hu : P.underlying t = some (.slice e)) (hs : sz? P e = some sz) (hb : bytes? P e = some by_) (hz : zero? P e = some z) (hzf : flat z = true) (hzs : z.cells.size = sz)
    (hsz : 0 < sz) (hby : 0 < by_) (hlc : l ≤ c) (hc : 0 < c) (hfit : by_ * c ≤ 281474976710656) : Does P base μ H w (Instr.makeSlice t (.int kl l) (.int kc c)) (.slice (some ⟨H.length, 0, none⟩) l c) (H ++ [.own e false (made z (c * sz))]) := by
  have hc1 : c ≤ 281474976710656 := Nat.le_trans (Nat.le_mul_of_pos_left _ hby) hfit
  refine Does.new_slice (w0 := w) (cur := (made z (c * sz)).toArray) (fr := (0, 0)) (l := false) (cap := c) (cap' := c) h hs rfl rfl rfl rfl ?_ (UnF.zero _) (by simp) (made_sim hzf (by omega) _) hc hlc (Nat.le_refl _) (fun _ => rfl) (fun h => by cases h)
  have hbi : (typeInfo e).run P w = (match P.info? e with | some i => .ok i w | none => .halt (.stuck "no such type") w) := by
    unfold typeInfo; simp; cases P.info? e <;> rfl
  obtain ⟨inf, hi, hbi'⟩ := Option.map_eq_some_iff.1 (show (P.info? e).map (·.bytes) = some by_ from hb)
  have hn : ¬ (c * sz = 0) := by have := Nat.mul_pos hc hsz; omega
  have hfit' : ¬ (281474976710656 : Int) < (by_ : Int) * (c : Int) := by
    have : ((by_ * c : Nat) : Int) ≤ 281474976710656 := by omega
    rw [Int.natCast_mul] at this
    omega
  have hlc' : ¬ (c : Int) < (l : Int) := by omega
  have hneg : ¬ (c : Int) < 0 := by omega
  have hneg' : ¬ (l : Int) < 0 := by omega
  simp [Instr.makeSlice, run_underlying hu, asInt, asIntOf, hbi, hi, hbi', wrap_small (Nat.le_trans hlc hc1), wrap_small hc1, hfit', hlc', hneg, hneg', run_sizeOf? hs, hn, run_zeroValue? hz, newRow]
  rw [show c * sz = c * sz from rfl, ← made_toArray]
theorem does_make0 {t e : TypeId} {sz by_ : Nat} {kl kc : IntKind} (h : Sim P base μ H w) (hu : P.underlying t = some (.slice e)) (hs : sz? P e = some sz) (hb : bytes? P e = some by_) :
    Does P base μ H w (Instr.makeSlice t (.int kl 0) (.int kc 0)) (.slice (some ⟨0, 0, none⟩) 0 0) H := by
  obtain ⟨inf, hi, hbi'⟩ := Option.map_eq_some_iff.1 (show (P.info? e).map (·.bytes) = some by_ from hb)
  have hbi : (typeInfo e).run P w = .ok inf w := by unfold typeInfo; simp [hi]
  refine Does.void_alloc (x := .cells #[] e) h ?_
  have w0 : IntKind.i64.wrap 0 = 0 := by decide
  simp [Instr.makeSlice, run_underlying hu, asInt, asIntOf, hbi, w0, run_sizeOf? hs, newRow]
  rw [range0]
theorem does_build {t e : TypeId} {sz len : Nat} {ps : Array (Nat × Operand)} {z : Value} {out : Array Value} (h : Sim P base μ H w) (hu : P.underlying t = some (.slice e)) (hs : sz? P e = some sz) (hz : zero? P e = some z) (hzf : flat z = true) (hzs : z.cells.size = sz)
    (hsz : 0 < sz) (hl : 0 < len) (hfit : len * sz ≤ 16777216) (hp : ∀ p ∈ ps, VR μ (ρ p.2) (ρ' p.2)) (hf : Instr.fill (fun i => some (i * sz, sz)) (made z (len * sz)).toArray (ps.toList.map fun p => (p.1, ρ p.2)) = some out) (hos : out.size = len * sz) :
    Does P base μ H w (Instr.buildSlice t len (ps.map fun p => (p.1, ρ' p.2))) (.slice (some ⟨H.length, 0, none⟩) len len) (H ++ [.own e false out.toList]) := by
  have hp' : ∀ p ∈ ps.toList, VR μ (ρ p.2) (ρ' p.2) := fun p hm => hp p (by simpa using hm)
  have hm : AR μ (made z (len * sz)).toArray (made z (len * sz)).toArray := ⟨rfl, fun i v v' hv hv' => by
    obtain ⟨u, h1, h2⟩ := made_sim (μ := μ) hzf (by omega) (len * sz) i v (by simpa using hv)
    rw [hv'] at h1
    cases h1
    exact h2⟩
  obtain ⟨out', h1, h2⟩ := fill_sim (ρ' := ρ') _ ps.toList _ _ out hp' hm hf
  refine Does.new_slice (w0 := w) (cur := out') (fr := (0, 0)) (l := false) (cap := len) (cap' := len) h hs rfl rfl rfl rfl ?_ (UnF.zero _) (by simp [h2.1]) (LR.ofArray h2) hl (Nat.le_refl _) (Nat.le_refl _) (fun _ => rfl) (fun h => by cases h)
  have hn : ¬ (len * sz = 0) := by have := Nat.mul_pos hl hsz; omega
  have hfit' : ¬ (16777216 < len * sz) := by omega
  have hl' : (ps.map fun p => (p.1, ρ' p.2)).toList = ps.toList.map fun p => (p.1, ρ' p.2) := by simp
  simp only [Instr.buildSlice, Sem.run_bind, run_underlying hu, Result.andThen_ok, run_sizeOf? hs]
  rw [if_neg (by omega), if_neg hn]
  simp only [Sem.run_bind, run_zeroValue? hz, Result.andThen_ok, Sem.run_pure]
  rw [made_toArray, hl', h1]
  simp [newRow]
theorem does_build0 {t e : TypeId} {sz : Nat} (h : Sim P base μ H w) (hu : P.underlying t = some (.slice e)) (hs : sz? P e = some sz) : Does P base μ H w (Instr.buildSlice t 0 #[]) (.slice (some ⟨0, 0, none⟩) 0 0) H := by
  refine Does.void_alloc (x := .cells #[] e) h ?_
  simp [Instr.buildSlice, run_underlying hu, run_sizeOf? hs, newRow, Instr.fill]
  rw [range0]
def srcT (P : Program) (t : TypeId) : Bool := match P.underlying t with
  | some (.slice _) | some .string => true
  | _ => false
theorem srcT_spec {t : TypeId} (h : srcT P t = true) : (∃ e, P.underlying t = some (.slice e)) ∨ P.underlying t = some .string := by
  unfold srcT at h
  split at h
  · rename_i e he; exact .inl ⟨e, he⟩
  · rename_i he; exact .inr he
  · cases h
theorem run_append_place {ts tx e ty : TypeId} {sz : Nat} {a : Option Addr} {len cap n : Nat} {x : Value} {news : List Value} (hu : P.underlying ts = some (.slice e)) (hx : srcT P tx = true) (hs : sz? P e = some sz)
    (hl : (Builtin.lenOf x).run P w = .ok n w) (hf : (Builtin.firstCells sz n x).run P w = .ok news.toArray w) (hroom : len + n ≤ cap) {w1 : World} (hst : (match a with | some ad => storeCells (ad.add (len * sz)) news | none => pure ()).run P w = .ok () w1) :
    (Builtin.append_ #[ts, tx] ty #[.slice a len cap, x]).run P w = .ok (.slice a (len + n) cap) w1 := by
  rcases srcT_spec hx with ⟨e', hd⟩ | hd
  all_goals
    cases a with
    | none =>
      simp at hst
      subst hst
      simp [Builtin.append_, run_underlying hu, run_underlying hd, run_sizeOf? hs, hl, hroom, hf]
    | some ad =>
      simp at hst
      simp [Builtin.append_, run_underlying hu, run_underlying hd, run_sizeOf? hs, hl, hroom, hf, hst]
theorem run_append_new {ts tx e ty : TypeId} {sz by_ : Nat} {z : Value} {a : Option Addr} {len cap n : Nat} {x : Value} {olds news : List Value} (hu : P.underlying ts = some (.slice e)) (hx : srcT P tx = true) (hs : sz? P e = some sz) (hb : bytes? P e = some by_) (hz : zero? P e = some z)
    (hl : (Builtin.lenOf x).run P w = .ok n w) (hf : ∀ w1 : World, w1.heap = w.heap → (Builtin.firstCells sz n x).run P w1 = .ok news.toArray w1) (hfo : ∀ w1 : World, w1.heap = w.heap → (Builtin.firstCells sz len (.slice a len cap)).run P w1 = .ok olds.toArray w1)
    (hroom : cap < len + n) (hfit : (len + n) * by_ ≤ 140737488355328) (hby : 0 < by_) :
    (Builtin.append_ #[ts, tx] ty #[.slice a len cap, x]).run P w = .ok (.slice (some ⟨w.heap.size, 0, none⟩) (len + n) (grownCap w (len + n) cap e)) (w.drew.alloc (.cells (olds.toArray ++ news.toArray ++ Builtin.zeroCells z.cells (grownCap w (len + n) cap e - (len + n))) e)) := by
  obtain ⟨inf, hi, hbi'⟩ := Option.map_eq_some_iff.1 (show (P.info? e).map (·.bytes) = some by_ from hb)
  have hbi : ∀ w1 : World, (typeInfo e).run P w1 = .ok inf w1 := fun w1 => by unfold typeInfo; simp [hi]
  have hn : ¬ (len + n ≤ cap) := by omega
  have hbig : len + n ≤ 140737488355328 := Nat.le_trans (Nat.le_mul_of_pos_right _ hby) hfit
  have h63 : ¬ (9223372036854775807 < ((len : Int) + (n : Int))) := by omega
  have h0 : ¬ (by_ = 0) := by omega
  have h48 : ¬ (281474976710656 < Builtin.nextslicecap (len + n) cap * by_) := by have := growslice_fits hroom hfit; omega
  have hf' := hf w.drew rfl
  have hfo' := hfo w.drew rfl
  rcases srcT_spec hx with ⟨e', hd⟩ | hd
  all_goals simp [Builtin.append_, run_underlying hu, run_underlying hd, run_sizeOf? hs, hl, hn, hbi, hbi', h0, h48, Question.forced, hf', hfo', run_zeroValue? hz, newRow, grownCap]
  all_goals
    congr 2
    apply Array.ext'
    simp [List.append_assoc]
def appS (ts tx ty : TypeId) (s x : Value) : Sem Value := Builtin.append_ #[ts, tx] ty #[s, x]
theorem does_app0 {ts tx e ty : TypeId} {sz len cap m : Nat} {a : Option Addr} {x s' x' : Value} (h : Sim P base μ H w) (hu : P.underlying ts = some (.slice e)) (hx : srcT P tx = true) (hs : sz? P e = some sz) (hsrc : Src H sz x m 0 []) (hm : m = 0) (hvs : VR μ (.slice a len cap) s') (hvx : VR μ x x') :
    Does P base μ H w (appS ts tx ty s' x') (.slice a len cap) H := by
  subst hm
  obtain ⟨h1, -, news', h2, h3⟩ := src_sim hsrc h hvx
  have hn : news' = [] := List.eq_nil_of_length_eq_zero (by simpa using h3.1.symm)
  subst hn
  obtain ⟨a', c', rfl, hle, -⟩ := hvs.slice_len
  refine ⟨μ, _, w, run_append_place (w1 := w) hu hx hs h1 (h2 w rfl) hle ?_, hvs, h, Step.refl _ _ _⟩
  cases a' <;> rfl
theorem zeros_get (olds : List Value) (z : Value) (n : Nat) : ∀ (i : Nat) (v : Value), olds[i]? = some v → (olds.toArray ++ Builtin.zeroCells z.cells n)[i]? = some v := fun i v hv => by
  have hlt := (gsI.1 hv).1
  rw [Array.getElem?_append_left (by simpa using hlt)]
  simpa using hv
theorem does_appNew {ts tx e ty : TypeId} {sz by_ n : Nat} {z : Value} {a : Option Addr} {x s' x' : Value} {news : List Value} (h : Sim P base μ H w) (hu : P.underlying ts = some (.slice e)) (hx : srcT P tx = true) (hs : sz? P e = some sz) (hb : bytes? P e = some by_) (hz : zero? P e = some z) (hzs : z.cells.size = sz)
    (hsrc : Src H sz x n n news) (hn : 0 < n) (hby : 0 < by_) (hfit : n * by_ ≤ 140737488355328) (ha : a = none ∨ ∃ i, a = some ⟨0, i, none⟩) (hvs : VR μ (.slice a 0 0) s') (hvx : VR μ x x') :
    Does P base μ H w (appS ts tx ty s' x') (.slice (some ⟨H.length, 0, none⟩) n n) (H ++ [.own e true news]) := by
  obtain ⟨h1, hlen, news', h2, h3⟩ := src_sim hsrc h hvx
  obtain ⟨a', rfl⟩ : ∃ a', s' = .slice a' 0 0 := by
    rcases ha with rfl | ⟨i, rfl⟩
    · cases hvs; exact ⟨_, rfl⟩
    · cases hvs with
      | void => exact ⟨_, rfl⟩
      | empty hb0 => exact absurd rfl hb0
      | slice hk hc => omega
  have hr := run_append_new (P := P) (w := w) (ty := ty) (a := a') (len := 0) (cap := 0) (olds := []) hu hx hs hb hz h1 h2 (fun w1 _ => by cases a' <;> simp [Builtin.firstCells, loadCells, loadCellsFrom]) (by omega) (by simpa using hfit) hby
  simp only [Nat.zero_add, List.nil_append] at hr
  have hge := grownCap_ge w n 0 e
  have hl' : news'.length = n * sz := by rw [← h3.1, hlen]
  refine Does.new_slice (w0 := w.drew) (cap := n) (l := true) (fr := (0, 0)) h hs rfl rfl rfl rfl hr (UnF.zero _) (by simp [size_zeroCells, hl', hlen]) (fun i v hv => ?_) hn (Nat.le_refl _) hge (fun h => by cases h) (fun _ => ?_)
  · obtain ⟨v', hv1, hv2⟩ := h3.get hv
    exact ⟨v', by have := zeros_get news' z (grownCap w n 0 e - n) i v' hv1; simpa using this, hv2⟩
  · simp [size_zeroCells, hl', hzs, ← Nat.add_mul]
    rw [show n + (grownCap w n 0 e - n) = grownCap w n 0 e by omega]
    exact Nat.le_refl _
theorem does_appIn {ts tx e ty : TypeId} {sz b i len cap n : Nat} {l : Bool} {cs : List Value} {x s' x' : Value} {news : List Value} (h : Sim P base μ H w) (hu : P.underlying ts = some (.slice e)) (hx : srcT P tx = true) (hs : sz? P e = some sz)
    (hsrc : Src H sz x n n news) (hroom : len + n ≤ cap) (hc : 0 < cap) (hX : H[b]? = some (.own e l cs)) (hfit : i + len * sz + news.length ≤ cs.length) (h1c : (news.all (·.oneCell')) = true) (hvs : VR μ (.slice (some ⟨b, i, none⟩) len cap) s') (hvx : VR μ x x') :
    Does P base μ H w (appS ts tx ty s' x') (.slice (some ⟨b, i, none⟩) (len + n) cap) (H.set b (.own e l (spl cs (i + len * sz) news))) := by
  obtain ⟨h1, hlen, news', h2, h3⟩ := src_sim hsrc h hvx
  cases hvs with
  | void => omega
  | empty => omega
  | slice hk hc0 hle hcc hxx hN =>
    rename_i k cap'
    obtain ⟨w1, hr, s1, s2⟩ := put_cells (i := i + len * sz) h hk hX h3 hfit (fun v hv => by simpa using List.all_eq_true.1 h1c v hv)
    refine ⟨μ, _, w1, run_append_place (w1 := w1) hu hx hs h1 (h2 w rfl) (by omega) ?_, .slice hk hc hroom hcc hxx hN, s1, s2⟩
    simp only [addr_add]
    rw [← hr]
    congr 3
    omega
theorem grown_row {ts tx e ty : TypeId} {sz by_ b i len cap' n : Nat} {z : Value} {X : SObj} {cs : List Value} {k : Bk} {x' : Value} {news news' : List Value} (h : Sim P base μ H w) (hu : P.underlying ts = some (.slice e)) (hx : srcT P tx = true) (hs : sz? P e = some sz) (hb : bytes? P e = some by_) (hz : zero? P e = some z) (hzs : z.cells.size = sz)
    (hby : 0 < by_) (hfit : (len + n) * by_ ≤ 140737488355328) (hk : μ b = some k) (hX : H[b]? = some X) (hc : X.cells? = some cs) (hfo : i + len * sz ≤ cs.length) (hroom : cap' < len + n)
    (h1 : (Builtin.lenOf x').run P w = .ok n w) (hlen : news.length = n * sz) (h2 : ∀ w1 : World, w1.heap = w.heap → (Builtin.firstCells sz n x').run P w1 = .ok news'.toArray w1) (h3 : LR μ news news') :
    Does P base μ H w (appS ts tx ty (.slice (some ⟨k.g, k.o + i, none⟩) len cap') x') (.slice (some ⟨H.length, 0, none⟩) (len + n) (len + n)) (H ++ [.own e true ((cs.drop i).take (len * sz) ++ news)]) := by
  obtain ⟨vs, hvl, hcell, hvr⟩ := h.cells hk hX hc hfo
  have hr := run_append_new (P := P) (w := w) (ty := ty) (a := some ⟨k.g, k.o + i, none⟩) (len := len) (cap := cap') (olds := vs) hu hx hs hb hz h1 h2 (fun w1 hw => by
    simp only [Builtin.firstCells]
    rw [← hvl]
    exact run_loadCells_list w1 _ vs fun j u hu => by rw [cell?_of_heap (w := w) (by rw [hw])]; exact hcell j u hu) hroom hfit hby
  have hge := grownCap_ge w (len + n) cap' e
  have hl' : (vs ++ news').length = (len + n) * sz := by rw [List.length_append, hvl, ← h3.1, hlen, Nat.add_mul]
  have hcl : ((cs.drop i).take (len * sz) ++ news).length = (len + n) * sz := by rw [List.length_append, hvr.1, hvl, hlen, Nat.add_mul]
  have hLR := hvr.append h3
  have earr : vs.toArray ++ news'.toArray ++ Builtin.zeroCells z.cells (grownCap w (len + n) cap' e - (len + n)) = (vs ++ news').toArray ++ Builtin.zeroCells z.cells (grownCap w (len + n) cap' e - (len + n)) := by simp
  rw [earr] at hr
  refine Does.new_slice (w0 := w.drew) (cap := len + n) (l := true) (fr := (0, 0)) h hs rfl rfl rfl rfl hr (UnF.zero _) (by rw [Array.size_append, List.size_toArray, hl', hcl]; omega) (fun j v hv => ?_) (by omega) (Nat.le_refl _) hge (fun h => by cases h) (fun _ => ?_)
  · obtain ⟨v', hv1, hv2⟩ := hLR.get hv
    exact ⟨v', zeros_get (vs ++ news') z _ j v' hv1, hv2⟩
  · rw [Array.size_append, List.size_toArray, hl', size_zeroCells, hzs, ← Nat.add_mul, show len + n + (grownCap w (len + n) cap' e - (len + n)) = grownCap w (len + n) cap' e by omega]
    exact Nat.le_refl _
theorem does_appGrow {ts tx e ty : TypeId} {sz by_ b i len cap n : Nat} {z : Value} {cs : List Value} {x s' x' : Value} {news : List Value} (h : Sim P base μ H w) (hu : P.underlying ts = some (.slice e)) (hx : srcT P tx = true) (hs : sz? P e = some sz) (hb : bytes? P e = some by_) (hz : zero? P e = some z) (hzs : z.cells.size = sz)
    (hsrc : Src H sz x n n news) (hn : 0 < n) (hby : 0 < by_) (hfit : (len + n) * by_ ≤ 140737488355328) (hX : H[b]? = some (.own e false cs)) (hfo : i + len * sz ≤ cs.length) (hroom : cap < len + n) (hc : 0 < cap) (hvs : VR μ (.slice (some ⟨b, i, none⟩) len cap) s') (hvx : VR μ x x') :
    Does P base μ H w (appS ts tx ty s' x') (.slice (some ⟨H.length, 0, none⟩) (len + n) (len + n)) (H ++ [.own e true ((cs.drop i).take (len * sz) ++ news)]) := by
  obtain ⟨h1, hlen, news', h2, h3⟩ := src_sim hsrc h hvx
  cases hvs with
  | void => omega
  | empty => omega
  | slice hk hc0 hle hcc hxx hN =>
    rename_i k cap'
    have hl : k.loose = false := by cases h.blk b k _ hk hX; assumption
    have := hxx hl
    exact grown_row h hu hx hs hb hz hzs hby hfit hk hX rfl hfo (by omega) h1 hlen h2 h3
theorem does_kill {s : Sem Value} {v : Value} {b : Nat} {e : TypeId} {l : Bool} {cs : List Value} {X : SObj} (h : Sim P base μ H w) (hX : H[b]? = some (.own e l cs)) (hd : Does P base μ H w s v (H ++ [X])) : Does P base μ H w s v (H.set b .dead ++ [X]) := by
  obtain ⟨μ1, v', w1, q1, q2, q3, q4⟩ := hd
  have hb' : b < H.length := (gsI.1 hX).1
  obtain ⟨k1, k2⟩ := q3.kill b ⟨e, l, cs, by rw [get_append_lt hb']; exact hX⟩
  have eset : (H ++ [X]).set b .dead = H.set b .dead ++ [X] := by rw [List.set_append_left _ _ hb']
  rw [eset] at k1 k2
  exact ⟨μ1, v', w1, q1, q2, k1, q4.trans k2⟩
theorem does_appMove {ts tx e ty : TypeId} {sz by_ b i len cap n : Nat} {z : Value} {cs : List Value} {x s' x' : Value} {news : List Value} (h : Sim P base μ H w) (hu : P.underlying ts = some (.slice e)) (hx : srcT P tx = true) (hs : sz? P e = some sz) (hb : bytes? P e = some by_) (hz : zero? P e = some z) (hzs : z.cells.size = sz)
    (hsrc : Src H sz x n n news) (hn : 0 < n) (hby : 0 < by_) (hfit : (len + n) * by_ ≤ 140737488355328) (hX : H[b]? = some (.own e true cs)) (hfo : i + len * sz ≤ cs.length) (hroom : cap < len + n) (hc : 0 < cap) (h1c : (news.all (·.oneCell')) = true)
    (hvs : VR μ (.slice (some ⟨b, i, none⟩) len cap) s') (hvx : VR μ x x') :
    Does P base μ H w (appS ts tx ty s' x') (.slice (some ⟨H.length, 0, none⟩) (len + n) (len + n)) (H.set b .dead ++ [.own e true ((cs.drop i).take (len * sz) ++ news)]) := by
  obtain ⟨h1, hlen, news', h2, h3⟩ := src_sim hsrc h hvx
  cases hvs with
  | void => omega
  | empty => omega
  | slice hk hc0 hle hcc hxx hN =>
    rename_i k cap'
    have hblk := h.blk b k _ hk hX
    cases hblk with
    | own hbg hlo hi hsz hg hNN hf hfit0 hv =>
    rename_i cur fr inf
    have hksz : k.sz = sz := by simp only [sz?, hi, Option.map_some, Option.some.injEq] at hs; omega
    have hN' := hN hlo
    rw [hksz] at hN'
    by_cases hin : len + n ≤ cap'
    ·
      have hmul : len * sz + n * sz ≤ cap' * sz := by rw [← Nat.add_mul]; exact Nat.mul_le_mul_right _ hin
      have hlen' : news'.length = n * sz := by rw [← h3.1, hlen]
      have hone : ∀ v ∈ news', v.oneCell' = true := fun v' hv' => by
        obtain ⟨j, hj⟩ := List.getElem?_of_mem hv'
        have hjlt : j < news.length := by rw [h3.1]; exact (gsI.1 hj).1
        rw [(h3.2 j _ _ (gtE hjlt) hj).oneCell]
        simpa using List.all_eq_true.1 h1c _ (List.getElem_mem hjlt)
      have hrun := run_store_list (P := P) k.g (k.o + i + len * sz) e fr news' 0 cur w hg (hNN ▸ hf) (by omega) hone
      simp only [Nat.add_zero] at hrun
      have hcl : ((cs.drop i).take (len * sz)).length = len * sz := by simp; omega
      have hmv := h.moved (i := i) (l' := true) (cs' := (cs.drop i).take (len * sz) ++ news) (cur' := (spl cur.toList (k.o + i + len * sz) news').toArray) (fr := fr) hk hX ⟨cur, hg, by rw [List.size_toArray, spl_length (by simp; omega)]; simp⟩
        (by rw [List.size_toArray, spl_length (by simp; omega), List.length_append, hcl, hlen]; simp; omega) (fun j v hj => by
          have e1 : (spl cur.toList (k.o + i + len * sz) news').toArray[k.o + i + j]? = (spl cur.toList (k.o + i + len * sz) news')[k.o + i + j]? := by simp
          rw [e1, spl_get (by simp; omega)]
          by_cases hjl : j < len * sz
          · rw [if_neg (by omega)]
            rw [List.getElem?_append_left (by omega), List.getElem?_take_of_lt hjl, List.getElem?_drop] at hj
            obtain ⟨v', q1, q2⟩ := hv (i + j) v hj
            exact ⟨v', by simpa [Nat.add_assoc] using q1, q2⟩
          · rw [List.getElem?_append_right (by omega), hcl] at hj
            have hjn : j - len * sz < news.length := (gsI.1 hj).1
            rw [if_pos (by omega), show k.o + i + j - (k.o + i + len * sz) = j - len * sz by omega]
            exact h3.get hj)
      refine ⟨_, _, _, run_append_place hu hx hs h1 (h2 w rfl) hin (by simp only [addr_add]; exact hrun), ?_, hmv.1, hmv.2⟩
      have := VR.slice (μ := μ.put H.length ⟨k.g, k.o + i, k.N, k.sz, true⟩) (b := H.length) (i := 0) (k := ⟨k.g, k.o + i, k.N, k.sz, true⟩) (len := len + n) (cap := len + n) (cap' := cap') (Mu.put_same _ _ _) (by omega) (Nat.le_refl _) hin (fun h => by cases h)
        (fun _ => by simp only; rw [hksz]; omega)
      simpa using this
    ·
      have hg2 := grown_row (ts := ts) (tx := tx) (ty := ty) (by_ := by_) (z := z) (x' := x') (len := len) (n := n) (i := i) (cap' := cap') h hu hx hs hb hz hzs hby hfit hk hX rfl hfo (by omega) h1 hlen h2 h3
      exact does_kill h hX hg2
theorem does_copy {td ts e ty : TypeId} {sz b i dlen dcap m n : Nat} {l : Bool} {cs : List Value} {x d' x' : Value} {news : List Value} (h : Sim P base μ H w) (hu : P.underlying td = some (.slice e)) (hs : sz? P e = some sz) (hsrc : Src H sz x m n news) (hn : n = min m dlen) (hn0 : 0 < n)
    (hX : H[b]? = some (.own e l cs)) (hfit : i + news.length ≤ cs.length) (h1c : (news.all (·.oneCell')) = true) (hvd : VR μ (.slice (some ⟨b, i, none⟩) dlen dcap) d') (hvx : VR μ x x') :
    Does P base μ H w (Builtin.copy_ #[td, ts] ty #[d', x']) (.int .i64 n) (H.set b (.own e l (spl cs i news))) := by
  obtain ⟨h1, hlen, news', h2, h3⟩ := src_sim hsrc h hvx
  obtain ⟨k, cap', hk, rfl, -⟩ := hvd.slice_inv (by omega)
  obtain ⟨w1, hr, s1, s2⟩ := put_cells (i := i) h hk hX h3 hfit (fun v hv => by simpa using List.all_eq_true.1 h1c v hv)
  have hn' : Nat.min m dlen = n := hn.symm
  exact ⟨μ, .int .i64 n, w1, by simp [Builtin.copy_, run_underlying hu, h1, hn', run_sizeOf? hs, h2 w rfl, hr, goInt], .int _ _, s1, s2⟩
theorem does_copy0 {td ts e ty : TypeId} {sz dlen dcap m : Nat} {a : Option Addr} {x d' x' : Value} (h : Sim P base μ H w) (hu : P.underlying td = some (.slice e)) (hs : sz? P e = some sz) (hsrc : Src H sz x m 0 []) (hn : min m dlen = 0) (hvd : VR μ (.slice a dlen dcap) d') (hvx : VR μ x x') :
    Does P base μ H w (Builtin.copy_ #[td, ts] ty #[d', x']) (.int .i64 0) H := by
  obtain ⟨h1, hlen, news', h2, h3⟩ := src_sim hsrc h hvx
  have hnil : news' = [] := List.eq_nil_of_length_eq_zero (by simpa using h3.1.symm)
  subst hnil
  obtain ⟨a', c', rfl, -⟩ := hvd.slice_len
  have hn' : Nat.min m dlen = 0 := hn
  refine ⟨μ, .int .i64 0, w, ?_, .int _ _, h, Step.refl _ _ _⟩
  cases a' <;> simp [Builtin.copy_, run_underlying hu, h1, hn', run_sizeOf? hs, h2 w rfl, goInt, storeCells]
end
section
variable {P : Program} {base : Nat} {μ : Mu} {H : SHeap} {w : World}
theorem does_str {src dst e : TypeId} {x x' : Value} {n : Nat} {xs : List Int} (h : Sim P base μ H w) (hs : P.underlying src = some (.slice e)) (he : P.underlying e = some (.int .u8)) (hd : P.underlying dst = some .string)
    (hsl : ∃ a len c, x = .slice a len c) (hsrc : Src H 1 x n n (xs.map (Value.int .u8))) (hvx : VR μ x x') : Does P base μ H w (convert src dst x') (.string (strOfNums xs)) H := by
  obtain ⟨a, len, c, rfl⟩ := hsl
  generalize hnews : xs.map (Value.int .u8) = news at hsrc
  cases hsrc with
  | zeroS =>
    have hx : xs = [] := by simpa using hnews
    subst hx
    obtain ⟨a', c', rfl, -⟩ := hvx.slice_len
    refine ⟨μ, .string (strOfNums []), w, ?_, .str _, h, Step.refl _ _ _⟩
    cases a' with
    | none => rw [run_convert_bytes_nil w src e hs he _ _ dst hd]; rfl
    | some ad =>
      rw [run_convert_bytes_string w src dst e (some ad) 0 c' hs he hd, run_bytesToString w _ 0 c' [] (by simp [loadCells, loadCellsFrom]), foldl_push_bytes]
      rfl
  | row hx hc hn hm hfit =>
    rename_i b i X cs
    obtain ⟨k, cap', hk, rfl, -⟩ := hvx.slice_inv (by omega)
    obtain ⟨vs, hl, hcell, hr⟩ := h.cells hk hx hc hfit
    have hlen : xs.length = n := by
      have := congrArg List.length hnews
      have h2 := hr.1
      simp only [List.length_map] at this
      omega
    refine ⟨μ, .string (strOfNums xs), w, run_convert_bytes_arg w src e hs he _ _ n cap' xs hlen (fun j hj => ?_) dst hd, .str _, h, Step.refl _ _ _⟩
    have hj2 : ((cs.drop i).take (n * 1))[j]? = some (.int .u8 (xs.getD j 0)) := by
      rw [← hnews]
      simp [gtE (show j < xs.length by omega), List.getD_eq_getElem?_getD]
    obtain ⟨v', hv1, hv2⟩ := hr.get hj2
    have := hcell j v' hv1
    rw [addr_add] at this
    rw [this, hv2.int_inv]
end
inductive MOp (P : Program) (ρ : Operand → Value) (H : SHeap) (o : Oper) : Value → SHeap → Prop
  | ofPure {v : Value} (hs : ∀ cs b, o.op ≠ .select cs b) (hf : (o.op.operands.all fun x => flat (ρ x)) = true) (hv : flat v = true) (h : pureRun P (execOp ρ o) = some (.value v)) : MOp P ρ H o v H
  | alloc {e : TypeId} {z : Value} {n : Nat} (h : o.op = .alloc e) (hz : zero? P e = some z) (hzf : flat z = true) (hs : sz? P e = some n) : MOp P ρ H o (.pointer (some ⟨H.length, 0, none⟩)) (H ++ [.own e false z.cells.toList])
  | box {e : TypeId} {x : Operand} {n : Nat} (h : o.op = .box e x) (hs : sz? P e = some n) : MOp P ρ H o (.pointer (some ⟨H.length, 0, none⟩)) (H ++ [.own e false (ρ x).cells.toList])
  | load1 {t : TypeId} {x : Operand} {b i : Nat} {X : SObj} {cs : List Value} {v : Value} (h : o.op = .load t x) (ha : aggB P t = some false) (hx : ρ x = .pointer (some ⟨b, i, none⟩)) (hX : H[b]? = some X) (hc : X.cells? = some cs) (hv : cs[i]? = some v) : MOp P ρ H o v H
  | loadA {t : TypeId} {x : Operand} {b i n : Nat} {X : SObj} {cs : List Value} (h : o.op = .load t x) (ha : aggB P t = some true) (hs : sz? P t = some n) (hx : ρ x = .pointer (some ⟨b, i, none⟩)) (hX : H[b]? = some X) (hc : X.cells? = some cs) (hfit : i + n ≤ cs.length) :
      MOp P ρ H o (.agg ((cs.drop i).take n).toArray) H
  | store {t : TypeId} {x y : Operand} {b i : Nat} {e : TypeId} {l : Bool} {cs : List Value} (h : o.op = .store t x y) (hs : sz? P t = some (ρ y).cells.size) (hx : ρ x = .pointer (some ⟨b, i, none⟩)) (hX : H[b]? = some (.own e l cs)) (hfit : i + (ρ y).cells.size ≤ cs.length)
      (h1 : ((ρ y).cells.toList.all (·.oneCell')) = true) : MOp P ρ H o undef (H.set b (.own e l (spl cs i (ρ y).cells.toList)))
  | slice {t e : TypeId} {x : Operand} {lo hi : Option Operand} {sz b i len cap l hh : Nat} {X : SObj} (h : o.op = .slice t x lo hi none) (hu : P.underlying t = some (.slice e)) (hs : sz? P e = some sz) (hx : ρ x = .slice (some ⟨b, i, none⟩) len cap) (hX : H[b]? = some X) (he : X.elem? = some e)
      (hl : loOf ρ lo = some l) (hh' : hiOf ρ len hi = some hh) (h1 : l ≤ hh) (h2 : hh ≤ cap) (hlt : l < cap) : MOp P ρ H o (.slice (some ⟨b, i + l * sz, none⟩) (hh - l) (cap - l)) H
  | sliceEnd {t e : TypeId} {x : Operand} {lo hi : Option Operand} {sz b i len cap : Nat} (h : o.op = .slice t x lo hi none) (hu : P.underlying t = some (.slice e)) (hs : sz? P e = some sz) (hx : ρ x = .slice (some ⟨b, i, none⟩) len cap) (hcap : 0 < cap)
      (hl : loOf ρ lo = some cap) (hh' : hiOf ρ len hi = some cap) : MOp P ρ H o (.slice (some ⟨b, i, none⟩) 0 0) H
  | sliceZero {t e : TypeId} {x : Operand} {lo hi : Option Operand} {sz : Nat} {a : Option Addr} (h : o.op = .slice t x lo hi none) (hu : P.underlying t = some (.slice e)) (hs : sz? P e = some sz) (hx : ρ x = .slice a 0 0)
      (hl : loOf ρ lo = some 0) (hh' : hiOf ρ 0 hi = some 0) : MOp P ρ H o (.slice a 0 0) H
  | slice3v {t e : TypeId} {x lo hi mx : Operand} {sz len cap l : Nat} {a : Addr} (h : o.op = .slice t x (some lo) (some hi) (some mx)) (hu : P.underlying t = some (.slice e)) (hs : sz? P e = some sz) (hx : ρ x = .slice (some a) len cap)
      (hl : loOf ρ (some lo) = some l) (hh' : loOf ρ (some hi) = some l) (hm : loOf ρ (some mx) = some l) (h3 : l ≤ cap) : MOp P ρ H o (.slice (some ⟨0, 0, none⟩) 0 0) H
  | slice3n {t e : TypeId} {x lo hi mx : Operand} {sz : Nat} (h : o.op = .slice t x (some lo) (some hi) (some mx)) (hu : P.underlying t = some (.slice e)) (hs : sz? P e = some sz) (hx : ρ x = .slice none 0 0)
      (hl : loOf ρ (some lo) = some 0) (hh' : loOf ρ (some hi) = some 0) (hm : loOf ρ (some mx) = some 0) : MOp P ρ H o (.slice none 0 0) H
  | make {t e : TypeId} {x y : Operand} {sz by_ l c : Nat} {kl kc : IntKind} {z : Value} (h : o.op = .makeSlice t x y) (hu : P.underlying t = some (.slice e)) (hs : sz? P e = some sz) (hb : bytes? P e = some by_) (hz : zero? P e = some z) (hzf : flat z = true) (hzs : z.cells.size = sz)
      (hx : ρ x = .int kl (l : Int)) (hy : ρ y = .int kc (c : Int)) (hsz : 0 < sz) (hby : 0 < by_) (hlc : l ≤ c) (hc : 0 < c) (hfit : by_ * c ≤ 281474976710656) : MOp P ρ H o (.slice (some ⟨H.length, 0, none⟩) l c) (H ++ [.own e false (made z (c * sz))])
  | make0 {t e : TypeId} {x y : Operand} {sz by_ : Nat} {kl kc : IntKind} (h : o.op = .makeSlice t x y) (hu : P.underlying t = some (.slice e)) (hs : sz? P e = some sz) (hb : bytes? P e = some by_) (hx : ρ x = .int kl 0) (hy : ρ y = .int kc 0) :
      MOp P ρ H o (.slice (some ⟨0, 0, none⟩) 0 0) H
  | build {t e : TypeId} {sz len : Nat} {ps : Array (Nat × Operand)} {z : Value} {out : Array Value} (h : o.op = .buildSlice t len ps) (hu : P.underlying t = some (.slice e)) (hs : sz? P e = some sz) (hz : zero? P e = some z) (hzf : flat z = true) (hzs : z.cells.size = sz)
      (hsz : 0 < sz) (hl : 0 < len) (hfit : len * sz ≤ 16777216) (hf : Instr.fill (fun i => some (i * sz, sz)) (made z (len * sz)).toArray (ps.toList.map fun p => (p.1, ρ p.2)) = some out) (hos : out.size = len * sz) :
      MOp P ρ H o (.slice (some ⟨H.length, 0, none⟩) len len) (H ++ [.own e false out.toList])
  | build0 {t e : TypeId} {sz : Nat} (h : o.op = .buildSlice t 0 #[]) (hu : P.underlying t = some (.slice e)) (hs : sz? P e = some sz) : MOp P ρ H o (.slice (some ⟨0, 0, none⟩) 0 0) H
  | app0 {ts tx e : TypeId} {s x : Operand} {sz len cap : Nat} {a : Option Addr} (h : o.op = .call { callee := .builtin .append, args := #[s, x], argTypes := #[ts, tx] }) (hu : P.underlying ts = some (.slice e)) (hx : srcT P tx = true) (hs : sz? P e = some sz) (hsrc : Src H sz (ρ x) 0 0 [])
      (hv : ρ s = .slice a len cap) : MOp P ρ H o (.slice a len cap) H
  | appNew {ts tx e : TypeId} {s x : Operand} {sz by_ n : Nat} {z : Value} {a : Option Addr} {news : List Value} (h : o.op = .call { callee := .builtin .append, args := #[s, x], argTypes := #[ts, tx] }) (hu : P.underlying ts = some (.slice e)) (hx : srcT P tx = true) (hs : sz? P e = some sz)
      (hb : bytes? P e = some by_) (hz : zero? P e = some z) (hzs : z.cells.size = sz) (hsrc : Src H sz (ρ x) n n news) (hn : 0 < n) (hby : 0 < by_) (hfit : n * by_ ≤ 140737488355328) (ha : a = none ∨ ∃ i, a = some ⟨0, i, none⟩) (hv : ρ s = .slice a 0 0) :
      MOp P ρ H o (.slice (some ⟨H.length, 0, none⟩) n n) (H ++ [.own e true news])
  | appIn {ts tx e : TypeId} {s x : Operand} {sz b i len cap n : Nat} {l : Bool} {cs : List Value} {news : List Value} (h : o.op = .call { callee := .builtin .append, args := #[s, x], argTypes := #[ts, tx] }) (hu : P.underlying ts = some (.slice e)) (hx : srcT P tx = true) (hs : sz? P e = some sz)
      (hsrc : Src H sz (ρ x) n n news) (hroom : len + n ≤ cap) (hc : 0 < cap) (hX : H[b]? = some (.own e l cs)) (hfit : i + len * sz + news.length ≤ cs.length) (h1c : (news.all (·.oneCell')) = true) (hv : ρ s = .slice (some ⟨b, i, none⟩) len cap) :
      MOp P ρ H o (.slice (some ⟨b, i, none⟩) (len + n) cap) (H.set b (.own e l (spl cs (i + len * sz) news)))
  | appGrow {ts tx e : TypeId} {s x : Operand} {sz by_ b i len cap n : Nat} {z : Value} {cs : List Value} {news : List Value} (h : o.op = .call { callee := .builtin .append, args := #[s, x], argTypes := #[ts, tx] }) (hu : P.underlying ts = some (.slice e)) (hx : srcT P tx = true) (hs : sz? P e = some sz)
      (hb : bytes? P e = some by_) (hz : zero? P e = some z) (hzs : z.cells.size = sz) (hsrc : Src H sz (ρ x) n n news) (hn : 0 < n) (hby : 0 < by_) (hfit : (len + n) * by_ ≤ 140737488355328) (hX : H[b]? = some (.own e false cs)) (hfo : i + len * sz ≤ cs.length) (hroom : cap < len + n) (hc : 0 < cap)
      (hv : ρ s = .slice (some ⟨b, i, none⟩) len cap) : MOp P ρ H o (.slice (some ⟨H.length, 0, none⟩) (len + n) (len + n)) (H ++ [.own e true ((cs.drop i).take (len * sz) ++ news)])
  | appMove {ts tx e : TypeId} {s x : Operand} {sz by_ b i len cap n : Nat} {z : Value} {cs : List Value} {news : List Value} (h : o.op = .call { callee := .builtin .append, args := #[s, x], argTypes := #[ts, tx] }) (hu : P.underlying ts = some (.slice e)) (hx : srcT P tx = true) (hs : sz? P e = some sz)
      (hb : bytes? P e = some by_) (hz : zero? P e = some z) (hzs : z.cells.size = sz) (hsrc : Src H sz (ρ x) n n news) (hn : 0 < n) (hby : 0 < by_) (hfit : (len + n) * by_ ≤ 140737488355328) (hX : H[b]? = some (.own e true cs)) (hfo : i + len * sz ≤ cs.length) (hroom : cap < len + n) (hc : 0 < cap)
      (h1c : (news.all (·.oneCell')) = true) (hv : ρ s = .slice (some ⟨b, i, none⟩) len cap) : MOp P ρ H o (.slice (some ⟨H.length, 0, none⟩) (len + n) (len + n)) (H.set b .dead ++ [.own e true ((cs.drop i).take (len * sz) ++ news)])
  | copy {td ts e : TypeId} {d x : Operand} {sz b i dlen dcap m n : Nat} {l : Bool} {cs : List Value} {news : List Value} (h : o.op = .call { callee := .builtin .copy, args := #[d, x], argTypes := #[td, ts] }) (hu : P.underlying td = some (.slice e)) (hs : sz? P e = some sz) (hsrc : Src H sz (ρ x) m n news)
      (hn : n = min m dlen) (hn0 : 0 < n) (hX : H[b]? = some (.own e l cs)) (hfit : i + news.length ≤ cs.length) (h1c : (news.all (·.oneCell')) = true) (hv : ρ d = .slice (some ⟨b, i, none⟩) dlen dcap) : MOp P ρ H o (.int .i64 n) (H.set b (.own e l (spl cs i news)))
  | copy0 {td ts e : TypeId} {d x : Operand} {sz dlen dcap m : Nat} {a : Option Addr} (h : o.op = .call { callee := .builtin .copy, args := #[d, x], argTypes := #[td, ts] }) (hu : P.underlying td = some (.slice e)) (hs : sz? P e = some sz) (hsrc : Src H sz (ρ x) m 0 []) (hn : min m dlen = 0)
      (hv : ρ d = .slice a dlen dcap) : MOp P ρ H o (.int .i64 0) H
  | str {src dst e : TypeId} {x : Operand} {n : Nat} {xs : List Int} (h : o.op = .convert src dst x) (hs : P.underlying src = some (.slice e)) (he : P.underlying e = some (.int .u8)) (hd : P.underlying dst = some .string) (hsl : ∃ a len c, ρ x = .slice a len c)
      (hsrc : Src H 1 (ρ x) n n (xs.map (Value.int .u8))) : MOp P ρ H o (.string (strOfNums xs)) H
theorem mop_sim {P : Program} {base : Nat} {μ : Mu} {H H' : SHeap} {w : World} {ρ ρ' : Operand → Value} {o : Oper} {v : Value} (h : MOp P ρ H o v H') (hS : Sim P base μ H w) (hρ : ∀ x ∈ o.op.operands, VR μ (ρ x) (ρ' x)) :
    ∃ μ1 v' w1, ((execOp ρ' o).run P w = .ok (.value v') w1 ∨ ((execOp ρ' o).run P w = .ok .skip w1 ∧ v' = undef)) ∧ VR μ1 v v' ∧ Sim P base μ1 H' w1 ∧ Step μ H w μ1 H' w1 := by
  have fin : ∀ {s : Sem Value} {v : Value} {H' : SHeap}, Does P base μ H w s v H' → (∀ v' w1, s.run P w = .ok v' w1 → (execOp ρ' o).run P w = .ok (.value v') w1) →
      ∃ μ1 v' w1, ((execOp ρ' o).run P w = .ok (.value v') w1 ∨ ((execOp ρ' o).run P w = .ok .skip w1 ∧ v' = undef)) ∧ VR μ1 v v' ∧ Sim P base μ1 H' w1 ∧ Step μ H w μ1 H' w1 := by
    intro s v H' ⟨μ1, v', w1, q1, q2, q3, q4⟩ hr
    exact ⟨μ1, v', w1, .inl (hr _ _ q1), q2, q3, q4⟩
  cases h with
  | ofPure hs hf hv h =>
    have he : execOp ρ o = execOp ρ' o := execOp_congr o hs fun x hx => (flat_eq (by simpa using Array.all_eq_true'.1 hf x hx) (hρ x hx)).symm
    exact ⟨μ, v, w, .inl (pureRun_run _ _ (he ▸ h) w), flat_refl μ hv, hS, Step.refl _ _ _⟩
  | alloc h hz hzf hs => exact fin (does_alloc hS hz hzf hs) fun v' w1 hr => by simp [execOp, h, hr]
  | box h hs => exact fin (does_box hS (hρ _ (by simp [h, Op.operands])) hs) fun v' w1 hr => by simp [execOp, h, hr]
  | load1 h ha hx hX hc hv => exact fin (does_load1 hS ha (hx ▸ hρ _ (by simp [h, Op.operands])) hX hc hv) fun v' w1 hr => by simp [execOp, h, hr]
  | loadA h ha hs hx hX hc hfit => exact fin (does_loadA hS ha hs (hx ▸ hρ _ (by simp [h, Op.operands])) hX hc hfit) fun v' w1 hr => by simp [execOp, h, hr]
  | store h hs hx hX hfit h1 =>
    obtain ⟨w1, hr, s1, s2⟩ := does_store hS hs (hx ▸ hρ _ (by simp [h, Op.operands])) (hρ _ (by simp [h, Op.operands])) hX hfit h1
    exact ⟨μ, undef, w1, .inr ⟨by simp [execOp, h, hr], rfl⟩, VR.undef μ, s1, s2⟩
  | slice h hu hs hx hX he hl hh' h1 h2 hlt =>
    refine fin (does_slice hS hu hs (hx ▸ hρ _ (by simp [h, Op.operands])) hX he (fun y hy => hρ y ?_) (fun y hy => hρ y ?_) hl hh' h1 h2 hlt) fun v' w1 hr => by simp [execOp, h, hr]
    · simp [h, Op.operands, hy]
    · simp [h, Op.operands, hy]
  | sliceEnd h hu hs hx hcap hl hh' =>
    refine fin (does_slice_end hS hu hs (hx ▸ hρ _ (by simp [h, Op.operands])) hcap (fun y hy => hρ y ?_) (fun y hy => hρ y ?_) hl hh') fun v' w1 hr => by simp [execOp, h, hr]
    · simp [h, Op.operands, hy]
    · simp [h, Op.operands, hy]
  | sliceZero h hu hs hx hl hh' =>
    refine fin (does_slice_zero hS hu hs (hx ▸ hρ _ (by simp [h, Op.operands])) (fun y hy => hρ y ?_) (fun y hy => hρ y ?_) hl hh') fun v' w1 hr => by simp [execOp, h, hr]
    · simp [h, Op.operands, hy]
    · simp [h, Op.operands, hy]
  | slice3v h hu hs hx hl hh' hm h3 => exact fin (does_slice3_void hS hu hs (hx ▸ hρ _ (by simp [h, Op.operands])) (hρ _ (by simp [h, Op.operands])) (hρ _ (by simp [h, Op.operands])) (hρ _ (by simp [h, Op.operands])) hl hh' hm h3) fun v' w1 hr => by simp [execOp, h, hr]
  | slice3n h hu hs hx hl hh' hm => exact fin (does_slice3_nil hS hu hs (hx ▸ hρ _ (by simp [h, Op.operands])) (hρ _ (by simp [h, Op.operands])) (hρ _ (by simp [h, Op.operands])) (hρ _ (by simp [h, Op.operands])) hl hh' hm) fun v' w1 hr => by simp [execOp, h, hr]
  | make h hu hs hb hz hzf hzs hx hy hsz hby hlc hc hfit =>
    have e1 := (hx ▸ hρ _ (by simp [h, Op.operands])).int_inv
    have e2 := (hy ▸ hρ _ (by simp [h, Op.operands])).int_inv
    rename_i t e x y sz by_ l c kl kc z
    exact fin (does_make (kl := kl) (kc := kc) hS hu hs hb hz hzf hzs hsz hby hlc hc hfit) fun v' w1 hr => by simp [execOp, h, e1, e2, hr]
  | make0 h hu hs hb hx hy =>
    have e1 := (hx ▸ hρ _ (by simp [h, Op.operands])).int_inv
    have e2 := (hy ▸ hρ _ (by simp [h, Op.operands])).int_inv
    rename_i t e x y sz by_ kl kc
    exact fin (does_make0 (kl := kl) (kc := kc) hS hu hs hb) fun v' w1 hr => by simp [execOp, h, e1, e2, hr]
  | build h hu hs hz hzf hzs hsz hl hfit hf hos => exact fin (does_build hS hu hs hz hzf hzs hsz hl hfit (fun p hp => hρ p.2 (by simp [h, Op.operands]; exact ⟨p.1, by simpa using hp⟩)) hf hos) fun v' w1 hr => by simp [execOp, h, hr]
  | build0 h hu hs => exact fin (does_build0 hS hu hs) fun v' w1 hr => by simp [execOp, h, hr]
  | app0 h hu hx hs hsrc hv => exact fin (does_app0 (ty := o.type) hS hu hx hs hsrc rfl (hv ▸ hρ _ (by simp [h, Op.operands, Call.operands])) (hρ _ (by simp [h, Op.operands, Call.operands]))) fun v' w1 hr => by simp [appS] at hr; simp [execOp, h, resolve, invoke, builtin, hr]
  | appNew h hu hx hs hb hz hzs hsrc hn hby hfit ha hv =>
    exact fin (does_appNew (ty := o.type) hS hu hx hs hb hz hzs hsrc hn hby hfit ha (hv ▸ hρ _ (by simp [h, Op.operands, Call.operands])) (hρ _ (by simp [h, Op.operands, Call.operands]))) fun v' w1 hr => by simp [appS] at hr; simp [execOp, h, resolve, invoke, builtin, hr]
  | appIn h hu hx hs hsrc hroom hc hX hfit h1c hv =>
    exact fin (does_appIn (ty := o.type) hS hu hx hs hsrc hroom hc hX hfit h1c (hv ▸ hρ _ (by simp [h, Op.operands, Call.operands])) (hρ _ (by simp [h, Op.operands, Call.operands]))) fun v' w1 hr => by simp [appS] at hr; simp [execOp, h, resolve, invoke, builtin, hr]
  | appGrow h hu hx hs hb hz hzs hsrc hn hby hfit hX hfo hroom hc hv =>
    exact fin (does_appGrow (ty := o.type) hS hu hx hs hb hz hzs hsrc hn hby hfit hX hfo hroom hc (hv ▸ hρ _ (by simp [h, Op.operands, Call.operands])) (hρ _ (by simp [h, Op.operands, Call.operands]))) fun v' w1 hr => by simp [appS] at hr; simp [execOp, h, resolve, invoke, builtin, hr]
  | appMove h hu hx hs hb hz hzs hsrc hn hby hfit hX hfo hroom hc h1c hv =>
    exact fin (does_appMove (ty := o.type) hS hu hx hs hb hz hzs hsrc hn hby hfit hX hfo hroom hc h1c (hv ▸ hρ _ (by simp [h, Op.operands, Call.operands])) (hρ _ (by simp [h, Op.operands, Call.operands]))) fun v' w1 hr => by simp [appS] at hr; simp [execOp, h, resolve, invoke, builtin, hr]
  | copy h hu hs hsrc hn hn0 hX hfit h1c hv =>
    rename_i td ts e d x sz b i dlen dcap m n l cs news
    exact fin (does_copy (ty := o.type) (ts := ts) hS hu hs hsrc hn hn0 hX hfit h1c (hv ▸ hρ _ (by simp [h, Op.operands, Call.operands])) (hρ _ (by simp [h, Op.operands, Call.operands]))) fun v' w1 hr => by simp [execOp, h, resolve, invoke, builtin, hr]
  | copy0 h hu hs hsrc hn hv =>
    rename_i td ts e d x sz dlen dcap m a
    exact fin (does_copy0 (ty := o.type) (ts := ts) hS hu hs hsrc hn (hv ▸ hρ _ (by simp [h, Op.operands, Call.operands])) (hρ _ (by simp [h, Op.operands, Call.operands]))) fun v' w1 hr => by simp [execOp, h, resolve, invoke, builtin, hr]
  | str h hs he hd hsl hsrc => exact fin (does_str hS hs he hd hsl hsrc (hρ _ (by simp [h, Op.operands]))) fun v' w1 hr => by simp [execOp, h, hr]
def sev (t : List Value) : Operand → Value
  | .tmp i => t.getD i undef
  | .const v => v
  | .global g => .pointer (some ⟨0, g, some 0⟩)
  | .func f => .func (.func f) #[] #[]
def okOperand : Operand → Bool
  | .const v => flat v
  | _ => true
def sput (t : List Value) (dst : Option Tmp) (v : Value) : List Value := match dst with
  | some d => t.set d v
  | none => t
def syielded (ops : Array Oper) (t : List Value) (j : Nat) : Option Bool :=
  match ((ops[j]?).bind (·.dst)).bind (t[·]?) with
  | some (.bool b) => some b
  | _ => none
inductive SExit where
  | normal
  | exit (id : Nat)
  | ret
  deriving DecidableEq
def SExit.real : SExit → Exit
  | .normal => .normal
  | .exit id => .exit id
  | .ret => .ret
inductive RVs (P : Program) (t : List Value) (H : SHeap) : List ResultVar → List Value → Prop
  | nil : RVs P t H [] []
  | tmp {i : Nat} {rs : List ResultVar} {vs : List Value} (hs : RVs P t H rs vs) : RVs P t H (.tmp i :: rs) (t.getD i undef :: vs)
  | cell1 {a : Nat} {ty : TypeId} {b i : Nat} {X : SObj} {cs : List Value} {v : Value} {rs : List ResultVar} {vs : List Value} (ha : aggB P ty = some false) (hx : t.getD a undef = .pointer (some ⟨b, i, none⟩)) (hX : H[b]? = some X) (hc : X.cells? = some cs) (hv : cs[i]? = some v)
      (hs : RVs P t H rs vs) : RVs P t H (.cell a ty :: rs) (v :: vs)
  | cellA {a : Nat} {ty : TypeId} {b i n : Nat} {X : SObj} {cs : List Value} {rs : List ResultVar} {vs : List Value} (ha : aggB P ty = some true) (hn : sz? P ty = some n) (hx : t.getD a undef = .pointer (some ⟨b, i, none⟩)) (hX : H[b]? = some X) (hc : X.cells? = some cs) (hfit : i + n ≤ cs.length)
      (hs : RVs P t H rs vs) : RVs P t H (.cell a ty :: rs) (.agg ((cs.drop i).take n).toArray :: vs)
def retOf (vs : List Value) : Value := match vs with
  | [v] => v
  | _ => .tuple vs.toArray
def Ext (H H' : SHeap) : Prop := ∃ N, H' = H ++ N ∧ ∀ x ∈ N, ∀ e cs, x ≠ .ro e cs
def edgesOk (ops : Array Oper) : Bool := ops.toList.zipIdx.all fun oi => oi.1.after.all fun e => !Region.binds .any e || decide (e.on < oi.2)
def maskOk (ops : Array Oper) (m : Array Nat) : Bool := ops.toList.zipIdx.all fun oi => (List.range ops.size).all fun j =>
  !(m.getD oi.2 0).testBit j || oi.1.after.any fun e => Region.binds .any e && (e.on == j || (decide (e.on < oi.2) && (m.getD e.on 0).testBit j))
def before? (m : Array Nat) (i j : Nat) : Bool := (m.getD j 0).testBit i
def tmpsOk (ops : Array Oper) (m : Array Nat) : Bool := ops.toList.zipIdx.all fun yj => ops.toList.zipIdx.all fun xi => !decide (xi.2 < yj.2) || before? m xi.2 yj.2 ||
  ((match xi.1.dst with | some d => !(yj.1.looksAt ops).contains d && yj.1.dst != some d | none => true) && (match yj.1.dst with | some d => !(xi.1.looksAt ops).contains d | none => true))
def regChk (ops : Array Oper) : Bool := edgesOk ops && maskOk ops (Region.before ops) && tmpsOk ops (Region.before ops)
def barB (P : Program) (ops : Array Oper) (i : Nat) : Bool := ops.toList.zipIdx.all fun yj => isF P yj.1 || decide (yj.2 = i) || before? (Region.before ops) (min i yj.2) (max i yj.2)
inductive Job where
  | code (c : Code) (t : List Value) (H : SHeap)
  | op (ops : Array Oper) (o : Oper) (t : List Value) (H : SHeap)
  | call (f : FuncId) (args : List Value) (H : SHeap)
inductive Out where
  | code (e : SExit) (t : List Value) (H : SHeap)
  | val (v : Value) (H : SHeap)
def lateH (H : SHeap) (b : Nat) : Option SObj → SHeap
  | some x => H.set b x
  | none => H
def LateOk (P : Program) (ops : Array Oper) (o : Oper) (t : List Value) (H : SHeap) (v : Value) (H1 : SHeap) : Option (Nat × Option SObj) → Prop
  | none => (Region.wanted o (syielded ops t) = false ∨ isF P o = true) ∧ H1 = H
  | some (b, y) => Region.wanted o (syielded ops t) = true ∧ isF P o = false ∧ b < H.length ∧ H[b]? ≠ some .dead ∧ H1 = lateH H b y ∧ ∀ H' : SHeap, H'[b]? = H[b]? → MOp P (sev t) H' o v (lateH H' b y)
inductive Run (P : Program) : Job → Out → Prop
  | skip {t : List Value} {H : SHeap} : Run P (.code .skip t H) (.code .normal t H)
  | ret {t : List Value} {H : SHeap} : Run P (.code .ret t H) (.code .ret t H)
  | exit {id : Nat} {t : List Value} {H : SHeap} : Run P (.code (.exit id) t H) (.code (.exit id) t H)
  | seqN {a b : Code} {t t1 : List Value} {H H1 : SHeap} {e : SExit} {t2 : List Value} {H2 : SHeap} (h1 : Run P (.code a t H) (.code .normal t1 H1)) (h2 : Run P (.code b t1 H1) (.code e t2 H2)) : Run P (.code (.seq a b) t H) (.code e t2 H2)
  | seqE {a b : Code} {t t1 : List Value} {H H1 : SHeap} {e : SExit} (h1 : Run P (.code a t H) (.code e t1 H1)) (he : e ≠ .normal) : Run P (.code (.seq a b) t H) (.code e t1 H1)
  | cond {c : Operand} {x y : Code} {b : Bool} {t t1 : List Value} {H H1 : SHeap} {e : SExit} (hc : sev t c = .bool b) (hk : okOperand c = true) (h : Run P (.code (if b then x else y) t H) (.code e t1 H1)) : Run P (.code (.cond c x y) t H) (.code e t1 H1)
  | block {id : Nat} {c : Code} {t t1 : List Value} {H H1 : SHeap} {e : SExit} (h : Run P (.code c t H) (.code e t1 H1)) : Run P (.code (.block id c) t H) (.code (if e = .exit id then .normal else e) t1 H1)
  | loopN {c : Code} {t t1 t2 : List Value} {H H1 H2 : SHeap} {e : SExit} (h1 : Run P (.code c t H) (.code .normal t1 H1)) (h2 : Run P (.code (.loop c) t1 H1) (.code e t2 H2)) : Run P (.code (.loop c) t H) (.code e t2 H2)
  | loopE {c : Code} {t t1 : List Value} {H H1 : SHeap} {e : SExit} (h1 : Run P (.code c t H) (.code e t1 H1)) (he : e ≠ .normal) : Run P (.code (.loop c) t H) (.code e t1 H1)
  | region {id : Nat} {ops : Array Oper} {draw : Bool} (T : Nat → List Value) (V : Nat → Value) (Hs : Nat → SHeap) (hk : (ops.all fun o => o.op.operands.all okOperand) = true)
      (h : ∀ (i : Nat) (o : Oper), ops[i]? = some o → Run P (.op ops o (T i) (Hs i)) (.val (V i) (Hs (i + 1)))) (hT : ∀ (i : Nat) (o : Oper), ops[i]? = some o → T (i + 1) = sput (T i) o.dst (V i))
      (hd : draw = true → regChk ops = true ∧ ∀ (i : Nat) (o : Oper), ops[i]? = some o → isF P o = false → barB P ops i = true ∨ Ext (Hs i) (Hs (i + 1))) : Run P (.code (.region id ops draw) (T 0) (Hs 0)) (.code .normal (T ops.size) (Hs ops.size))
  | regionL {id : Nat} {ops : Array Oper} {draw : Bool} (T : Nat → List Value) (V : Nat → Value) (Hs : Nat → SHeap) (tg : Nat → Option (Nat × Option SObj)) (hk : (ops.all fun o => o.op.operands.all okOperand) = true)
      (h : ∀ (i : Nat) (o : Oper), ops[i]? = some o → Run P (.op ops o (T i) (Hs i)) (.val (V i) (Hs (i + 1)))) (hT : ∀ (i : Nat) (o : Oper), ops[i]? = some o → T (i + 1) = sput (T i) o.dst (V i)) (hchk : regChk ops = true)
      (hl : ∀ (i : Nat) (o : Oper), ops[i]? = some o → LateOk P ops o (T i) (Hs i) (V i) (Hs (i + 1)) (tg i)) (hd : ∀ (i j : Nat) (b : Nat) (x : SObj) (y : Option SObj), tg i = some (b, some x) → tg j = some (b, y) → i ≠ j → barB P ops i = true ∨ barB P ops j = true) (htg : ∀ j, ops.size ≤ j → tg j = none) :
      Run P (.code (.region id ops draw) (T 0) (Hs 0)) (.code .normal (T ops.size) (Hs ops.size))
  | opSkip {ops : Array Oper} {o : Oper} {t : List Value} {H : SHeap} (hw : Region.wanted o (syielded ops t) = false) : Run P (.op ops o t H) (.val undef H)
  | opF {ops : Array Oper} {o : Oper} {t : List Value} {H : SHeap} {v : Value} (hw : Region.wanted o (syielded ops t) = true) (hF : isF P o = true) (h : FOp P (sev t) o v) : Run P (.op ops o t H) (.val v H)
  | opM {ops : Array Oper} {o : Oper} {t : List Value} {H H1 : SHeap} {v : Value} (hw : Region.wanted o (syielded ops t) = true) (hF : isF P o = false) (h : MOp P (sev t) H o v H1) : Run P (.op ops o t H) (.val v H1)
  | opC {ops : Array Oper} {o : Oper} {t : List Value} {H H1 : SHeap} {v : Value} {f : Operand} {args : Array Operand} {ats : Array TypeId} {g : FuncId} {first cap : Array Value} {fn : Func} (hw : Region.wanted o (syielded ops t) = true) (hF : isF P o = false)
      (ho : o.op = .call { callee := .value f, args := args, argTypes := ats }) (hf : sev t f = .func (.func g) first cap) (hg : P.funcs[g]? = some fn) (hn : (fn.name == "runtime.NumGoroutine") = false) (hb : fn.body.isSome = true)
      (h : Run P (.call g (first.toList ++ args.toList.map (sev t) ++ cap.toList) H) (.val v H1)) : Run P (.op ops o t H) (.val v H1)
  | call {f : FuncId} {fn : Func} {c : Code} {args t1 vs : List Value} {H H1 : SHeap} {e : SExit} (hf : P.funcs[f]? = some fn) (hb : fn.body = some c) (h : Run P (.code c (args ++ List.replicate (fn.ntmps - args.length) undef) H) (.code e t1 H1))
      (he : e = .normal ∨ e = .ret) (hr : RVs P t1 H1 fn.results.toList vs) : Run P (.call f args H) (.val (retOf vs) H1)
  | callK {f : FuncId} {args : List Value} {v : Value} {H H1 : SHeap} {b : Nat} (h : Run P (.call f args H) (.val v H1)) (ho : IsOwn H1 b) : Run P (.call f args H) (.val v (H1.set b .dead))
def OpSound (P : Program) (base : Nat) (ops : Array Oper) (o : Oper) (t : List Value) (H : SHeap) (v : Value) (H1 : SHeap) : Prop :=
  (Region.wanted o (syielded ops t) = false ∧ v = undef ∧ H1 = H) ∨
  (Region.wanted o (syielded ops t) = true ∧ isF P o = true ∧ FOp P (sev t) o v ∧ H1 = H) ∨
  (Region.wanted o (syielded ops t) = true ∧ isF P o = false ∧ ∀ (μ : Mu) (w : World) (a : Act), (∀ x ∈ o.op.operands, VR μ (sev t x) (a.eval x)) → Sim P base μ H w → ∀ (K : Act → World → Prop) (Q : Exit → Act → World → Prop),
    (∀ μ1 v' w1, VR μ1 v v' → Sim P base μ1 H1 w1 → Step μ H w μ1 H1 w1 → K (a.put o.dst v') w1) → o.wp P a w K Q)
def Sound (P : Program) (base : Nat) : Job → Out → Prop
  | .code c t H, .code e t1 H1 => ∀ (μ : Mu) (w : World) (a : Act), LR μ t a.tmps.toList → a.defers = [] → Sim P base μ H w → ∀ (Q : Exit → Act → World → Prop),
      (∀ μ1 a1 w1, LR μ1 t1 a1.tmps.toList → a1.defers = [] → Sim P base μ1 H1 w1 → Step μ H w μ1 H1 w1 → Q e.real a1 w1) → c.wp P Q a w
  | .op ops o t H, .val v H1 => OpSound P base ops o t H v H1
  | .call f args H, .val v H1 => ∀ (μ : Mu) (w : World) (args' : Array Value), LR μ args args'.toList → Sim P base μ H w →
      Calls P f args' w fun e w' => ∃ v' μ1, e = .returned v' ∧ VR μ1 v v' ∧ Sim P base μ1 H1 w' ∧ Step μ H w μ1 H1 w'
  | _, _ => True
theorem sev_sim {μ : Mu} {t : List Value} {a : Act} (h : LR μ t a.tmps.toList) {x : Operand} (hx : okOperand x = true) : VR μ (sev t x) (a.eval x) := by
  cases x with
  | tmp i =>
    have := h.getD i
    simpa [sev, Act.eval, Array.getD_eq_getD_getElem?, List.getD_eq_getElem?_getD] using this
  | const v => exact flat_refl μ hx
  | global g => exact .glob g
  | func f => exact .func _ rfl (fun i v v' h => by simp at h) rfl (fun i v v' h => by simp at h)
theorem put_sim {μ : Mu} {t : List Value} {a : Act} (h : LR μ t a.tmps.toList) (dst : Option Tmp) {v v' : Value} (hv : VR μ v v') : LR μ (sput t dst v) (a.put dst v').tmps.toList := by
  cases dst with
  | none => exact h
  | some d =>
    simp only [sput, Act.put, Array.toList_setIfInBounds]
    exact h.set d hv
theorem put_defers (a : Act) (dst : Option Tmp) (v : Value) : (a.put dst v).defers = a.defers := by cases dst <;> rfl
theorem VR.boolOf {μ : Mu} {v v' : Value} (h : VR μ v v') : (match (some v : Option Value) with | some (.bool b) => some b | _ => (none : Option Bool)) = match (some v' : Option Value) with | some (.bool b) => some b | _ => none := by
  cases h <;> rfl
theorem yielded_sim {μ : Mu} {t : List Value} {a : Act} (h : LR μ t a.tmps.toList) (ops : Array Oper) (j : Nat) : yielded ops a.tmps j = syielded ops t j := by
  unfold yielded syielded
  cases hd : (ops[j]?).bind (·.dst) with
  | none => rfl
  | some d =>
    simp only [Option.bind_some]
    by_cases hlt : d < t.length
    · have h1 := gtE hlt
      obtain ⟨v', h2, h3⟩ := h.get h1
      have h2' : a.tmps[d]? = some v' := by simpa using h2
      rw [h1, h2']
      exact h3.boolOf.symm
    · have h0 : t.length ≤ d := Nat.le_of_not_lt hlt
      have h1 : t[d]? = none := List.getElem?_eq_none h0
      have h2 : a.tmps[d]? = none := by
        have := h.1
        rw [Array.getElem?_eq_none_iff]
        simp at this
        exact this ▸ h0
      rw [h1, h2]
theorem wanted_congr {o : Oper} {f g : Nat → Option Bool} (h : ∀ j b, o.guard = some (j, b) → f j = g j) : Region.wanted o f = Region.wanted o g := by
  unfold Region.wanted
  cases hg : o.guard with
  | none => rfl
  | some jb => simp only [h jb.1 jb.2 hg]
theorem ops_sound {P : Program} {base : Nat} {ops : Array Oper} {T : Nat → List Value} {V : Nat → Value} {Hs : Nat → SHeap} {Q : Exit → Act → World → Prop} (hk : (ops.all fun o => o.op.operands.all okOperand) = true)
    (h : ∀ (i : Nat) (o : Oper), ops[i]? = some o → OpSound P base ops o (T i) (Hs i) (V i) (Hs (i + 1))) (hT : ∀ (i : Nat) (o : Oper), ops[i]? = some o → T (i + 1) = sput (T i) o.dst (V i)) {μ0 : Mu} {w0 : World}
    (hQ : ∀ μ1 a1 w1, LR μ1 (T ops.size) a1.tmps.toList → a1.defers = [] → Sim P base μ1 (Hs ops.size) w1 → Step μ0 (Hs 0) w0 μ1 (Hs ops.size) w1 → Q .normal a1 w1) : ∀ (m k : Nat), k + m = ops.size → ∀ (μ : Mu) (a : Act) (w : World), LR μ (T k) a.tmps.toList → a.defers = [] →
    Sim P base μ (Hs k) w → Step μ0 (Hs 0) w0 μ (Hs k) w → wpOps P ops Q (List.range' k m) a w
  | 0, k, hkm, μ, a, w, hL, hdf, hS, hst => by
    have : k = ops.size := by omega
    subst this
    exact hQ μ a w hL hdf hS hst
  | m + 1, k, hkm, μ, a, w, hL, hdf, hS, hst => by
    have hlt : k < ops.size := by omega
    have ho : ops[k]? = some ops[k] := Array.getElem?_eq_getElem hlt
    have hop : ∀ x ∈ ops[k].op.operands, VR μ (sev (T k) x) (a.eval x) := fun x hx => sev_sim hL (by
      have h1 := Array.all_eq_true.1 hk k hlt
      simpa using Array.all_eq_true'.1 h1 x hx)
    have hw : Region.wanted ops[k] (yielded ops a.tmps) = Region.wanted ops[k] (syielded ops (T k)) := wanted_congr fun j _ _ => yielded_sim hL ops j
    rw [List.range'_succ, wpOps_cons]
    unfold wpOp
    simp only [ho, hw]
    have next : ∀ μ1 v' w1, VR μ1 (V k) v' → Sim P base μ1 (Hs (k + 1)) w1 → Step μ (Hs k) w μ1 (Hs (k + 1)) w1 → wpOps P ops Q (List.range' (k + 1) m) (a.put ops[k].dst v') w1 := fun μ1 v' w1 hv hS1 hst1 => by
      refine ops_sound hk h hT hQ m (k + 1) (by omega) μ1 _ w1 ?_ (by rw [put_defers]; exact hdf) hS1 (hst.trans hst1)
      rw [hT k _ ho]
      exact put_sim (hL.ext hst1.ext) _ hv
    rcases h k _ ho with ⟨h1, h2, h3⟩ | ⟨h1, h2, h3, h4⟩ | ⟨h1, h2, h3⟩
    · rw [h1]
      exact next μ undef w (h2 ▸ VR.undef μ) (h3 ▸ hS) (h3 ▸ Step.refl _ _ _)
    · rw [h1]
      obtain ⟨v', hr, hv⟩ := fop_sim h3 hop w
      refine .inl ?_
      unfold Oper.wp
      rw [hr]
      exact next μ v' w hv (h4 ▸ hS) (h4 ▸ Step.refl _ _ _)
    · rw [h1]
      exact .inl (h3 μ w a hop hS _ _ next)
end Go.Sx
end
