/-
  No cell of these rows narrows 'for every input' (looked for: loops, veiled, ifaces, maps, wideKeys, modest, calm, conditions, laid).
  DERIVED. THE GIVEN ROWS OF THIS SEAT. 5 by the template 'for every input the law returns true; each argument reads behind the call as it read before'; 0 by the template 'total and deterministic' (their statements: YtoiodfcefbapkaaGreatTotals.lean).
  GIVEN WITH THE SEED: the statements are not yours to turn. If you find one false, say at which input.
  Laid BY PROGRAM, IN A SANDBOX (cutbox-rows.mjs): the forced cells as the released guide's own fill.sh prints them over the translation 9b1da5330dc0911c… (all of the seat's roots in one cut). By AI agents, Wed Nov 11 2026. No macro, syntax, notation, axiom, sorry.
-/
import Derived.Test.YtoiodfcefbapkaaGreatChecked
import GoSem.Claim
import GoSem.ClaimJoined
import GoSem.ClaimMapViews
import Derived.JoinedTies
import Derived.KernelRfl
namespace Go.Proofs.YtoiodfcefbapkaaGreat
/- THE CELL 'sum', in the pinned program and in every row, IS THE sha256 OF THE DUMP (.gsa) THAT YtoiodfcefbapkaaGreatProg.lean LOADS. Nothing in Lean hashes anything: it is a label: what it is worth is what the hold of that sum in a sandbox is worth. -/
noncomputable def Tryz.pinned : Pinned := { name := "ytoiodfcefbapkaagreat", sum := "9b1da5330dc0911c38a2ac29d4770cc02a9c0e100a8c46d35779d91d58359752", checked := Tryz.checked }
namespace Rows
def none {H : Type} : Left H := { results := [], args := [] }

/-- 'cracknellaw08.ShopPlans': WHATEVER THE INPUT: true; the input reads as it did. -/
def shopPlansSpec : ChangeSpec := { name := "shopPlans", fn := fun _ => fun
  | [d] => { results := [.lit (.bool true)], args := [d] }
  | _ => none }
def shopPlansRow : OpenClaim := { program := "ytoiodfcefbapkaagreat", sum := "9b1da5330dc0911c38a2ac29d4770cc02a9c0e100a8c46d35779d91d58359752", func := "cracknel/cracknellaw08.ShopPlans", spec := "shopPlans", inPlace := ["internal/bytealg.IndexByteString", "internal/bytealg.IndexString"], unfollowed := true, recurses := true, named := ["internal/bytealg.MaxLen"], apart := false }
def ShopPlansSaid : Prop := shopPlansRow.holds Tryz.pinned (OpenSpec.ofChange shopPlansSpec)

/-- ITS FALSE NEIGHBOUR: 'it returns false'. Refute it at one input. -/
def shopPlansWrong : ChangeSpec := { name := "shopPlans", fn := fun _ => fun
  | [d] => { results := [.lit (.bool false)], args := [d] }
  | _ => none }
def ShopPlansWrongFalsely : Prop := shopPlansRow.holds Tryz.pinned (OpenSpec.ofChange shopPlansWrong)

/-- 'cracknellaw08.ShopDoes': WHATEVER THE INPUT: true; the input reads as it did. -/
def shopDoesSpec : ChangeSpec := { name := "shopDoes", fn := fun _ => fun
  | [d1, d2] => { results := [.lit (.bool true)], args := [d1, d2] }
  | _ => none }
def shopDoesRow : OpenClaim := { program := "ytoiodfcefbapkaagreat", sum := "9b1da5330dc0911c38a2ac29d4770cc02a9c0e100a8c46d35779d91d58359752", func := "cracknel/cracknellaw08.ShopDoes", spec := "shopDoes", inPlace := ["internal/bytealg.IndexByteString", "internal/bytealg.IndexString"], unfollowed := true, recurses := true, named := ["internal/bytealg.MaxLen"], apart := false }
def ShopDoesSaid : Prop := shopDoesRow.holds Tryz.pinned (OpenSpec.ofChange shopDoesSpec)

/-- ITS FALSE NEIGHBOUR: 'it returns false'. Refute it at one input. -/
def shopDoesWrong : ChangeSpec := { name := "shopDoes", fn := fun _ => fun
  | [d1, d2] => { results := [.lit (.bool false)], args := [d1, d2] }
  | _ => none }
def ShopDoesWrongFalsely : Prop := shopDoesRow.holds Tryz.pinned (OpenSpec.ofChange shopDoesWrong)

/-- 'cracknellaw08.ShopTurned': WHATEVER THE INPUT: true; the input reads as it did. -/
def shopTurnedSpec : ChangeSpec := { name := "shopTurned", fn := fun _ => fun
  | [d1, d2, d3] => { results := [.lit (.bool true)], args := [d1, d2, d3] }
  | _ => none }
def shopTurnedRow : OpenClaim := { program := "ytoiodfcefbapkaagreat", sum := "9b1da5330dc0911c38a2ac29d4770cc02a9c0e100a8c46d35779d91d58359752", func := "cracknel/cracknellaw08.ShopTurned", spec := "shopTurned", inPlace := ["internal/bytealg.IndexByteString", "internal/bytealg.IndexString"], unfollowed := true, recurses := true, named := ["internal/bytealg.MaxLen"], apart := false }
def ShopTurnedSaid : Prop := shopTurnedRow.holds Tryz.pinned (OpenSpec.ofChange shopTurnedSpec)

/-- ITS FALSE NEIGHBOUR: 'it returns false'. Refute it at one input. -/
def shopTurnedWrong : ChangeSpec := { name := "shopTurned", fn := fun _ => fun
  | [d1, d2, d3] => { results := [.lit (.bool false)], args := [d1, d2, d3] }
  | _ => none }
def ShopTurnedWrongFalsely : Prop := shopTurnedRow.holds Tryz.pinned (OpenSpec.ofChange shopTurnedWrong)

/-- 'cracknellaw08.ShopJoined': WHATEVER THE INPUT: true; the input reads as it did. -/
def shopJoinedSpec : ChangeSpec := { name := "shopJoined", fn := fun _ => fun
  | [d1, d2, d3] => { results := [.lit (.bool true)], args := [d1, d2, d3] }
  | _ => none }
def shopJoinedRow : OpenClaim := { program := "ytoiodfcefbapkaagreat", sum := "9b1da5330dc0911c38a2ac29d4770cc02a9c0e100a8c46d35779d91d58359752", func := "cracknel/cracknellaw08.ShopJoined", spec := "shopJoined", inPlace := ["internal/bytealg.IndexByteString", "internal/bytealg.IndexString"], unfollowed := true, recurses := true, named := ["internal/bytealg.MaxLen"], apart := false }
def ShopJoinedSaid : Prop := shopJoinedRow.holds Tryz.pinned (OpenSpec.ofChange shopJoinedSpec)

/-- ITS FALSE NEIGHBOUR: 'it returns false'. Refute it at one input. -/
def shopJoinedWrong : ChangeSpec := { name := "shopJoined", fn := fun _ => fun
  | [d1, d2, d3] => { results := [.lit (.bool false)], args := [d1, d2, d3] }
  | _ => none }
def ShopJoinedWrongFalsely : Prop := shopJoinedRow.holds Tryz.pinned (OpenSpec.ofChange shopJoinedWrong)

/-- 'cracknellaw08.ShopBirkhoff': WHATEVER THE INPUT: true; the input reads as it did. -/
def shopBirkhoffSpec : ChangeSpec := { name := "shopBirkhoff", fn := fun _ => fun
  | [d1, d2, d3] => { results := [.lit (.bool true)], args := [d1, d2, d3] }
  | _ => none }
def shopBirkhoffRow : OpenClaim := { program := "ytoiodfcefbapkaagreat", sum := "9b1da5330dc0911c38a2ac29d4770cc02a9c0e100a8c46d35779d91d58359752", func := "cracknel/cracknellaw08.ShopBirkhoff", spec := "shopBirkhoff", inPlace := ["internal/bytealg.IndexByteString", "internal/bytealg.IndexString"], unfollowed := true, recurses := true, named := ["internal/bytealg.MaxLen"], apart := false }
def ShopBirkhoffSaid : Prop := shopBirkhoffRow.holds Tryz.pinned (OpenSpec.ofChange shopBirkhoffSpec)

/-- ITS FALSE NEIGHBOUR: 'it returns false'. Refute it at one input. -/
def shopBirkhoffWrong : ChangeSpec := { name := "shopBirkhoff", fn := fun _ => fun
  | [d1, d2, d3] => { results := [.lit (.bool false)], args := [d1, d2, d3] }
  | _ => none }
def ShopBirkhoffWrongFalsely : Prop := shopBirkhoffRow.holds Tryz.pinned (OpenSpec.ofChange shopBirkhoffWrong)

/- THE SECOND FORM. 'bulk': how many values and letters a reading holds, each counted each time it is reached (what is shared counts as often as it is met; a slice's spare places count too). A statement '..UptoSaid' is the law's where the arguments, and the package variables that the reading takes, are together of bulk at most 1048576: NARROWER than '..Said'. Prove '..Said' where nothing that the law and all that it calls make is longer than what came in: it says more and counts as full. Else prove '..UptoSaid'. A law counts once. -/
mutual
def uptoBulk {H : Type} : DataW H → Nat
  | .lit (.string bytes) => bytes.length + 1
  | .lit _ => 1
  | .nil => 1
  | .ptr d => uptoBulk d + 1
  | .slice elems spare => uptoBulkAll elems + uptoBulkAll spare + 1
  | .agg parts => uptoBulkAll parts + 1
  | .iface _ d => uptoBulk d + 1
  | .map entries => uptoBulkEntries entries + 1
  | .held _ => 1
def uptoBulkAll {H : Type} : List (DataW H) → Nat
  | [] => 0
  | d :: r => uptoBulk d + uptoBulkAll r
def uptoBulkEntries {H : Type} : List (Lit × DataW H) → Nat
  | [] => 0
  | x :: r => uptoBulkEntry x + uptoBulkEntries r
def uptoBulkEntry {H : Type} : Lit × DataW H → Nat
  | (.string bytes, d) => bytes.length + uptoBulk d + 1
  | (_, d) => uptoBulk d + 1
 end
def uptoSmall : (H : Type) → List (DataW H) → Bool := fun _ ds => decide (uptoBulkAll ds ≤ 1048576)
def OpenSpec.upto (s : _root_.Go.ChangeSpec) : _root_.Go.OpenSpec := { _root_.Go.OpenSpec.ofChange s with cond := some uptoSmall }

/-- 'cracknellaw08.ShopPlans', WHERE WHAT IT READS IS OF BULK AT MOST 1048576: true; the input reads as it did. -/
def shopPlansUptoRow : OpenClaim := { program := "ytoiodfcefbapkaagreat", sum := "9b1da5330dc0911c38a2ac29d4770cc02a9c0e100a8c46d35779d91d58359752", func := "cracknel/cracknellaw08.ShopPlans", spec := "shopPlans", inPlace := ["internal/bytealg.IndexByteString", "internal/bytealg.IndexString"], unfollowed := true, recurses := true, named := ["internal/bytealg.MaxLen"], apart := false, narrowed := true }
def ShopPlansUptoSaid : Prop := shopPlansUptoRow.holds Tryz.pinned (OpenSpec.upto shopPlansSpec)

/-- 'cracknellaw08.ShopDoes', WHERE WHAT IT READS IS OF BULK AT MOST 1048576: true; the input reads as it did. -/
def shopDoesUptoRow : OpenClaim := { program := "ytoiodfcefbapkaagreat", sum := "9b1da5330dc0911c38a2ac29d4770cc02a9c0e100a8c46d35779d91d58359752", func := "cracknel/cracknellaw08.ShopDoes", spec := "shopDoes", inPlace := ["internal/bytealg.IndexByteString", "internal/bytealg.IndexString"], unfollowed := true, recurses := true, named := ["internal/bytealg.MaxLen"], apart := false, narrowed := true }
def ShopDoesUptoSaid : Prop := shopDoesUptoRow.holds Tryz.pinned (OpenSpec.upto shopDoesSpec)

/-- 'cracknellaw08.ShopTurned', WHERE WHAT IT READS IS OF BULK AT MOST 1048576: true; the input reads as it did. -/
def shopTurnedUptoRow : OpenClaim := { program := "ytoiodfcefbapkaagreat", sum := "9b1da5330dc0911c38a2ac29d4770cc02a9c0e100a8c46d35779d91d58359752", func := "cracknel/cracknellaw08.ShopTurned", spec := "shopTurned", inPlace := ["internal/bytealg.IndexByteString", "internal/bytealg.IndexString"], unfollowed := true, recurses := true, named := ["internal/bytealg.MaxLen"], apart := false, narrowed := true }
def ShopTurnedUptoSaid : Prop := shopTurnedUptoRow.holds Tryz.pinned (OpenSpec.upto shopTurnedSpec)

/-- 'cracknellaw08.ShopJoined', WHERE WHAT IT READS IS OF BULK AT MOST 1048576: true; the input reads as it did. -/
def shopJoinedUptoRow : OpenClaim := { program := "ytoiodfcefbapkaagreat", sum := "9b1da5330dc0911c38a2ac29d4770cc02a9c0e100a8c46d35779d91d58359752", func := "cracknel/cracknellaw08.ShopJoined", spec := "shopJoined", inPlace := ["internal/bytealg.IndexByteString", "internal/bytealg.IndexString"], unfollowed := true, recurses := true, named := ["internal/bytealg.MaxLen"], apart := false, narrowed := true }
def ShopJoinedUptoSaid : Prop := shopJoinedUptoRow.holds Tryz.pinned (OpenSpec.upto shopJoinedSpec)

/-- 'cracknellaw08.ShopBirkhoff', WHERE WHAT IT READS IS OF BULK AT MOST 1048576: true; the input reads as it did. -/
def shopBirkhoffUptoRow : OpenClaim := { program := "ytoiodfcefbapkaagreat", sum := "9b1da5330dc0911c38a2ac29d4770cc02a9c0e100a8c46d35779d91d58359752", func := "cracknel/cracknellaw08.ShopBirkhoff", spec := "shopBirkhoff", inPlace := ["internal/bytealg.IndexByteString", "internal/bytealg.IndexString"], unfollowed := true, recurses := true, named := ["internal/bytealg.MaxLen"], apart := false, narrowed := true }
def ShopBirkhoffUptoSaid : Prop := shopBirkhoffUptoRow.holds Tryz.pinned (OpenSpec.upto shopBirkhoffSpec)

end Rows
end Go.Proofs.YtoiodfcefbapkaaGreat
