/-
  No cell of these rows narrows 'for every input' (looked for: loops, veiled, ifaces, maps, wideKeys, modest, calm, conditions, laid).
  DERIVED. THE GIVEN ROWS OF THIS SEAT. 5 by the template 'for every input the law returns true; each argument reads behind the call as it read before'; 0 by the template 'total and deterministic' (their statements: YthjdldiekpidkaaTotals.lean).
  GIVEN WITH THE SEED: the statements are not yours to turn. If you find one false, say at which input.
  Laid BY PROGRAM, IN A SANDBOX (cutbox-rows.mjs): the forced cells as the released guide's own fill.sh prints them over the translation 0e52083f4d7d0dce… (all of the seat's roots in one cut). By AI agents, Wed Nov 11 2026. No macro, syntax, notation, axiom, sorry.
-/
import Derived.Test.YthjdldiekpidkaaChecked
import GoSem.Claim
import GoSem.ClaimJoined
import GoSem.ClaimMapViews
import Derived.JoinedTies
import Derived.KernelRfl
namespace Go.Proofs.Ythjdldiekpidkaa
/- THE CELL 'sum', in the pinned program and in every row, IS THE sha256 OF THE DUMP (.gsa) THAT YthjdldiekpidkaaProg.lean LOADS. Nothing in Lean hashes anything: it is a label: what it is worth is what the hold of that sum in a sandbox is worth. -/
noncomputable def Try.pinned : Pinned := { name := "ythjdldiekpidkaa", sum := "0e52083f4d7d0dcecd7bcaedd03586bbbd3ec7faaebebca97e2cbd3e63a1038b", checked := Try.checked }
namespace Rows
def none {H : Type} : Left H := { results := [], args := [] }

/-- 'chartroomlaw13.LeaseTells': WHATEVER THE INPUT: true; the input reads as it did. -/
def leaseTellsSpec : ChangeSpec := { name := "leaseTells", fn := fun _ => fun
  | [d1, d2, d3, d4, d5, d6] => { results := [.lit (.bool true)], args := [d1, d2, d3, d4, d5, d6] }
  | _ => none }
def leaseTellsRow : OpenClaim := { program := "ythjdldiekpidkaa", sum := "0e52083f4d7d0dcecd7bcaedd03586bbbd3ec7faaebebca97e2cbd3e63a1038b", func := "chartroom/chartroomlaw13.LeaseTells", spec := "leaseTells", inPlace := ["math/bits.Add64"], apart := false }
def LeaseTellsSaid : Prop := leaseTellsRow.holds Try.pinned (OpenSpec.ofChange leaseTellsSpec)

/-- ITS FALSE NEIGHBOUR: 'it returns false'. Refute it at one input. -/
def leaseTellsWrong : ChangeSpec := { name := "leaseTells", fn := fun _ => fun
  | [d1, d2, d3, d4, d5, d6] => { results := [.lit (.bool false)], args := [d1, d2, d3, d4, d5, d6] }
  | _ => none }
def LeaseTellsWrongFalsely : Prop := leaseTellsRow.holds Try.pinned (OpenSpec.ofChange leaseTellsWrong)

/-- 'chartroomlaw13.LeaseClocks': WHATEVER THE INPUT: true; the input reads as it did. -/
def leaseClocksSpec : ChangeSpec := { name := "leaseClocks", fn := fun _ => fun
  | [d1, d2, d3, d4] => { results := [.lit (.bool true)], args := [d1, d2, d3, d4] }
  | _ => none }
def leaseClocksRow : OpenClaim := { program := "ythjdldiekpidkaa", sum := "0e52083f4d7d0dcecd7bcaedd03586bbbd3ec7faaebebca97e2cbd3e63a1038b", func := "chartroom/chartroomlaw13.LeaseClocks", spec := "leaseClocks", inPlace := ["math/bits.Add64"], apart := false }
def LeaseClocksSaid : Prop := leaseClocksRow.holds Try.pinned (OpenSpec.ofChange leaseClocksSpec)

/-- ITS FALSE NEIGHBOUR: 'it returns false'. Refute it at one input. -/
def leaseClocksWrong : ChangeSpec := { name := "leaseClocks", fn := fun _ => fun
  | [d1, d2, d3, d4] => { results := [.lit (.bool false)], args := [d1, d2, d3, d4] }
  | _ => none }
def LeaseClocksWrongFalsely : Prop := leaseClocksRow.holds Try.pinned (OpenSpec.ofChange leaseClocksWrong)

/-- 'chartroomlaw13.LeaseFences': WHATEVER THE INPUT: true; the input reads as it did. -/
def leaseFencesSpec : ChangeSpec := { name := "leaseFences", fn := fun _ => fun
  | [d1, d2, d3, d4, d5] => { results := [.lit (.bool true)], args := [d1, d2, d3, d4, d5] }
  | _ => none }
def leaseFencesRow : OpenClaim := { program := "ythjdldiekpidkaa", sum := "0e52083f4d7d0dcecd7bcaedd03586bbbd3ec7faaebebca97e2cbd3e63a1038b", func := "chartroom/chartroomlaw13.LeaseFences", spec := "leaseFences", inPlace := ["math/bits.Add64"], apart := false }
def LeaseFencesSaid : Prop := leaseFencesRow.holds Try.pinned (OpenSpec.ofChange leaseFencesSpec)

/-- ITS FALSE NEIGHBOUR: 'it returns false'. Refute it at one input. -/
def leaseFencesWrong : ChangeSpec := { name := "leaseFences", fn := fun _ => fun
  | [d1, d2, d3, d4, d5] => { results := [.lit (.bool false)], args := [d1, d2, d3, d4, d5] }
  | _ => none }
def LeaseFencesWrongFalsely : Prop := leaseFencesRow.holds Try.pinned (OpenSpec.ofChange leaseFencesWrong)

/-- 'chartroomlaw13.LeaseChanges': WHATEVER THE INPUT: true; the input reads as it did. -/
def leaseChangesSpec : ChangeSpec := { name := "leaseChanges", fn := fun _ => fun
  | [d1, d2, d3, d4, d5] => { results := [.lit (.bool true)], args := [d1, d2, d3, d4, d5] }
  | _ => none }
def leaseChangesRow : OpenClaim := { program := "ythjdldiekpidkaa", sum := "0e52083f4d7d0dcecd7bcaedd03586bbbd3ec7faaebebca97e2cbd3e63a1038b", func := "chartroom/chartroomlaw13.LeaseChanges", spec := "leaseChanges", inPlace := ["math/bits.Add64"], unfollowed := true, recurses := true, apart := false }
def LeaseChangesSaid : Prop := leaseChangesRow.holds Try.pinned (OpenSpec.ofChange leaseChangesSpec)

/-- ITS FALSE NEIGHBOUR: 'it returns false'. Refute it at one input. -/
def leaseChangesWrong : ChangeSpec := { name := "leaseChanges", fn := fun _ => fun
  | [d1, d2, d3, d4, d5] => { results := [.lit (.bool false)], args := [d1, d2, d3, d4, d5] }
  | _ => none }
def LeaseChangesWrongFalsely : Prop := leaseChangesRow.holds Try.pinned (OpenSpec.ofChange leaseChangesWrong)

/-- 'chartroomlaw13.LeaseKnown': WHATEVER THE INPUT: true; the input reads as it did. -/
def leaseKnownSpec : ChangeSpec := { name := "leaseKnown", fn := fun _ => fun
  | [] => { results := [.lit (.bool true)], args := [] }
  | _ => none }
def leaseKnownRow : OpenClaim := { program := "ythjdldiekpidkaa", sum := "0e52083f4d7d0dcecd7bcaedd03586bbbd3ec7faaebebca97e2cbd3e63a1038b", func := "chartroom/chartroomlaw13.LeaseKnown", spec := "leaseKnown", inPlace := ["math/bits.Add64"], unfollowed := true, recurses := true, apart := false }
def LeaseKnownSaid : Prop := leaseKnownRow.holds Try.pinned (OpenSpec.ofChange leaseKnownSpec)

/-- ITS FALSE NEIGHBOUR: 'it returns false'. Refute it at one input. -/
def leaseKnownWrong : ChangeSpec := { name := "leaseKnown", fn := fun _ => fun
  | [] => { results := [.lit (.bool false)], args := [] }
  | _ => none }
def LeaseKnownWrongFalsely : Prop := leaseKnownRow.holds Try.pinned (OpenSpec.ofChange leaseKnownWrong)

/- THE SECOND FORM. 'bulk': how many values and letters a reading holds, each counted each time it is reached (what is shared counts as often as it is met; a slice's spare places count too). A statement '..UptoSaid' is the law's where the arguments, and the package variables that the reading takes, are together of bulk at most 1048576: NARROWER than '..Said'. Prove '..Said' where nothing that the law and all that it calls make is longer than what came in: it says more and counts as full. Else prove '..UptoSaid'. A law counts once. -/
mutual
def uptoBulk {H : Type} : DataW H → Nat
  | .lit (.string bytes) => bytes.length + 1
  | .lit _ => 1
  | .nil => 1
  | .ptr d => uptoBulk d + 1
  | .slice elems spare => uptoBulkAll elems + uptoBulkAll spare + 1
  | .agg parts => uptoBulkAll parts + 1
  | .iface _ d => uptoBulk d + 1
  | .map entries => uptoBulkEntries entries + 1
  | .held _ => 1
def uptoBulkAll {H : Type} : List (DataW H) → Nat
  | [] => 0
  | d :: r => uptoBulk d + uptoBulkAll r
def uptoBulkEntries {H : Type} : List (Lit × DataW H) → Nat
  | [] => 0
  | x :: r => uptoBulkEntry x + uptoBulkEntries r
def uptoBulkEntry {H : Type} : Lit × DataW H → Nat
  | (.string bytes, d) => bytes.length + uptoBulk d + 1
  | (_, d) => uptoBulk d + 1
 end
def uptoSmall : (H : Type) → List (DataW H) → Bool := fun _ ds => decide (uptoBulkAll ds ≤ 1048576)
def OpenSpec.upto (s : _root_.Go.ChangeSpec) : _root_.Go.OpenSpec := { _root_.Go.OpenSpec.ofChange s with cond := some uptoSmall }

/-- 'chartroomlaw13.LeaseTells', WHERE WHAT IT READS IS OF BULK AT MOST 1048576: true; the input reads as it did. -/
def leaseTellsUptoRow : OpenClaim := { program := "ythjdldiekpidkaa", sum := "0e52083f4d7d0dcecd7bcaedd03586bbbd3ec7faaebebca97e2cbd3e63a1038b", func := "chartroom/chartroomlaw13.LeaseTells", spec := "leaseTells", inPlace := ["math/bits.Add64"], apart := false, narrowed := true }
def LeaseTellsUptoSaid : Prop := leaseTellsUptoRow.holds Try.pinned (OpenSpec.upto leaseTellsSpec)

/-- 'chartroomlaw13.LeaseClocks', WHERE WHAT IT READS IS OF BULK AT MOST 1048576: true; the input reads as it did. -/
def leaseClocksUptoRow : OpenClaim := { program := "ythjdldiekpidkaa", sum := "0e52083f4d7d0dcecd7bcaedd03586bbbd3ec7faaebebca97e2cbd3e63a1038b", func := "chartroom/chartroomlaw13.LeaseClocks", spec := "leaseClocks", inPlace := ["math/bits.Add64"], apart := false, narrowed := true }
def LeaseClocksUptoSaid : Prop := leaseClocksUptoRow.holds Try.pinned (OpenSpec.upto leaseClocksSpec)

/-- 'chartroomlaw13.LeaseFences', WHERE WHAT IT READS IS OF BULK AT MOST 1048576: true; the input reads as it did. -/
def leaseFencesUptoRow : OpenClaim := { program := "ythjdldiekpidkaa", sum := "0e52083f4d7d0dcecd7bcaedd03586bbbd3ec7faaebebca97e2cbd3e63a1038b", func := "chartroom/chartroomlaw13.LeaseFences", spec := "leaseFences", inPlace := ["math/bits.Add64"], apart := false, narrowed := true }
def LeaseFencesUptoSaid : Prop := leaseFencesUptoRow.holds Try.pinned (OpenSpec.upto leaseFencesSpec)

/-- 'chartroomlaw13.LeaseChanges', WHERE WHAT IT READS IS OF BULK AT MOST 1048576: true; the input reads as it did. -/
def leaseChangesUptoRow : OpenClaim := { program := "ythjdldiekpidkaa", sum := "0e52083f4d7d0dcecd7bcaedd03586bbbd3ec7faaebebca97e2cbd3e63a1038b", func := "chartroom/chartroomlaw13.LeaseChanges", spec := "leaseChanges", inPlace := ["math/bits.Add64"], unfollowed := true, recurses := true, apart := false, narrowed := true }
def LeaseChangesUptoSaid : Prop := leaseChangesUptoRow.holds Try.pinned (OpenSpec.upto leaseChangesSpec)

/-- 'chartroomlaw13.LeaseKnown', WHERE WHAT IT READS IS OF BULK AT MOST 1048576: true; the input reads as it did. -/
def leaseKnownUptoRow : OpenClaim := { program := "ythjdldiekpidkaa", sum := "0e52083f4d7d0dcecd7bcaedd03586bbbd3ec7faaebebca97e2cbd3e63a1038b", func := "chartroom/chartroomlaw13.LeaseKnown", spec := "leaseKnown", inPlace := ["math/bits.Add64"], unfollowed := true, recurses := true, apart := false, narrowed := true }
def LeaseKnownUptoSaid : Prop := leaseKnownUptoRow.holds Try.pinned (OpenSpec.upto leaseKnownSpec)

end Rows
end Go.Proofs.Ythjdldiekpidkaa
