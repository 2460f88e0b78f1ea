/-
  NARROWER THAN 'FOR EVERY INPUT', by the rows' own cells (each row's printed sentence says how): HeapTaken: loops · HeapCounts: loops · HeapFreed: loops.
  DERIVED. THE GIVEN ROWS OF THIS SEAT. 3 by the template 'for every input the law returns true; each argument reads behind the call as it read before'; 0 by the template 'total and deterministic' (their statements: YtiiojajgajnhpabTotals.lean).
  GIVEN WITH THE SEED: the statements are not yours to turn. If you find one false, say at which input.
  Laid BY PROGRAM, IN A SANDBOX (cutbox-rows.mjs): the forced cells as the released guide's own fill.sh prints them over the translation 41b1e62ab63e5521… (all of the seat's roots in one cut). By AI agents, Wed Nov 11 2026. No macro, syntax, notation, axiom, sorry.
-/
import Derived.Test.YtiiojajgajnhpabChecked
import GoSem.Claim
import GoSem.ClaimJoined
import GoSem.ClaimMapViews
import Derived.JoinedTies
import Derived.KernelRfl
namespace Go.Proofs.Ytiiojajgajnhpab
/- THE CELL 'sum', in the pinned program and in every row, IS THE sha256 OF THE DUMP (.gsa) THAT YtiiojajgajnhpabProg.lean LOADS. Nothing in Lean hashes anything: it is a label: what it is worth is what the hold of that sum in a sandbox is worth. -/
noncomputable def Try.pinned : Pinned := { name := "ytiiojajgajnhpab", sum := "41b1e62ab63e5521634d84534f3b45c8ff05c69cab71971db3493a9f8047b4d5", checked := Try.checked }
namespace Rows
def none {H : Type} : Left H := { results := [], args := [] }

/-- 'weftwaylaw20.HeapTaken': WHATEVER THE INPUT: true; the input reads as it did. -/
def heapTakenSpec : ChangeSpec := { name := "heapTaken", fn := fun _ => fun
  | [d1, d2] => { results := [.lit (.bool true)], args := [d1, d2] }
  | _ => none }
def heapTakenRow : OpenClaim := { program := "ytiiojajgajnhpab", sum := "41b1e62ab63e5521634d84534f3b45c8ff05c69cab71971db3493a9f8047b4d5", func := "weftway/weftwaylaw20.HeapTaken", spec := "heapTaken", unfollowed := true, recurses := true, loops := true, apart := false }
def HeapTakenSaid : Prop := heapTakenRow.holds Try.pinned (OpenSpec.ofChange heapTakenSpec)

/-- ITS FALSE NEIGHBOUR: 'it returns false'. Refute it at one input. -/
def heapTakenWrong : ChangeSpec := { name := "heapTaken", fn := fun _ => fun
  | [d1, d2] => { results := [.lit (.bool false)], args := [d1, d2] }
  | _ => none }
def HeapTakenWrongFalsely : Prop := heapTakenRow.holds Try.pinned (OpenSpec.ofChange heapTakenWrong)

/-- 'weftwaylaw20.HeapCounts': WHATEVER THE INPUT: true; the input reads as it did. -/
def heapCountsSpec : ChangeSpec := { name := "heapCounts", fn := fun _ => fun
  | [d] => { results := [.lit (.bool true)], args := [d] }
  | _ => none }
def heapCountsRow : OpenClaim := { program := "ytiiojajgajnhpab", sum := "41b1e62ab63e5521634d84534f3b45c8ff05c69cab71971db3493a9f8047b4d5", func := "weftway/weftwaylaw20.HeapCounts", spec := "heapCounts", unfollowed := true, recurses := true, loops := true, apart := false }
def HeapCountsSaid : Prop := heapCountsRow.holds Try.pinned (OpenSpec.ofChange heapCountsSpec)

/-- ITS FALSE NEIGHBOUR: 'it returns false'. Refute it at one input. -/
def heapCountsWrong : ChangeSpec := { name := "heapCounts", fn := fun _ => fun
  | [d] => { results := [.lit (.bool false)], args := [d] }
  | _ => none }
def HeapCountsWrongFalsely : Prop := heapCountsRow.holds Try.pinned (OpenSpec.ofChange heapCountsWrong)

/-- 'weftwaylaw20.HeapFreed': WHATEVER THE INPUT: true; the input reads as it did. -/
def heapFreedSpec : ChangeSpec := { name := "heapFreed", fn := fun _ => fun
  | [d1, d2] => { results := [.lit (.bool true)], args := [d1, d2] }
  | _ => none }
def heapFreedRow : OpenClaim := { program := "ytiiojajgajnhpab", sum := "41b1e62ab63e5521634d84534f3b45c8ff05c69cab71971db3493a9f8047b4d5", func := "weftway/weftwaylaw20.HeapFreed", spec := "heapFreed", unfollowed := true, recurses := true, loops := true, apart := false }
def HeapFreedSaid : Prop := heapFreedRow.holds Try.pinned (OpenSpec.ofChange heapFreedSpec)

/-- ITS FALSE NEIGHBOUR: 'it returns false'. Refute it at one input. -/
def heapFreedWrong : ChangeSpec := { name := "heapFreed", fn := fun _ => fun
  | [d1, d2] => { results := [.lit (.bool false)], args := [d1, d2] }
  | _ => none }
def HeapFreedWrongFalsely : Prop := heapFreedRow.holds Try.pinned (OpenSpec.ofChange heapFreedWrong)

/- THE SECOND FORM. 'bulk': how many values and letters a reading holds, each counted each time it is reached (what is shared counts as often as it is met; a slice's spare places count too). A statement '..UptoSaid' is the law's where the arguments, and the package variables that the reading takes, are together of bulk at most 1048576: NARROWER than '..Said'. Prove '..Said' where nothing that the law and all that it calls make is longer than what came in: it says more and counts as full. Else prove '..UptoSaid'. A law counts once. -/
mutual
def uptoBulk {H : Type} : DataW H → Nat
  | .lit (.string bytes) => bytes.length + 1
  | .lit _ => 1
  | .nil => 1
  | .ptr d => uptoBulk d + 1
  | .slice elems spare => uptoBulkAll elems + uptoBulkAll spare + 1
  | .agg parts => uptoBulkAll parts + 1
  | .iface _ d => uptoBulk d + 1
  | .map entries => uptoBulkEntries entries + 1
  | .held _ => 1
def uptoBulkAll {H : Type} : List (DataW H) → Nat
  | [] => 0
  | d :: r => uptoBulk d + uptoBulkAll r
def uptoBulkEntries {H : Type} : List (Lit × DataW H) → Nat
  | [] => 0
  | x :: r => uptoBulkEntry x + uptoBulkEntries r
def uptoBulkEntry {H : Type} : Lit × DataW H → Nat
  | (.string bytes, d) => bytes.length + uptoBulk d + 1
  | (_, d) => uptoBulk d + 1
 end
def uptoSmall : (H : Type) → List (DataW H) → Bool := fun _ ds => decide (uptoBulkAll ds ≤ 1048576)
def OpenSpec.upto (s : _root_.Go.ChangeSpec) : _root_.Go.OpenSpec := { _root_.Go.OpenSpec.ofChange s with cond := some uptoSmall }

/-- 'weftwaylaw20.HeapTaken', WHERE WHAT IT READS IS OF BULK AT MOST 1048576: true; the input reads as it did. -/
def heapTakenUptoRow : OpenClaim := { program := "ytiiojajgajnhpab", sum := "41b1e62ab63e5521634d84534f3b45c8ff05c69cab71971db3493a9f8047b4d5", func := "weftway/weftwaylaw20.HeapTaken", spec := "heapTaken", unfollowed := true, recurses := true, loops := true, apart := false, narrowed := true }
def HeapTakenUptoSaid : Prop := heapTakenUptoRow.holds Try.pinned (OpenSpec.upto heapTakenSpec)

/-- 'weftwaylaw20.HeapCounts', WHERE WHAT IT READS IS OF BULK AT MOST 1048576: true; the input reads as it did. -/
def heapCountsUptoRow : OpenClaim := { program := "ytiiojajgajnhpab", sum := "41b1e62ab63e5521634d84534f3b45c8ff05c69cab71971db3493a9f8047b4d5", func := "weftway/weftwaylaw20.HeapCounts", spec := "heapCounts", unfollowed := true, recurses := true, loops := true, apart := false, narrowed := true }
def HeapCountsUptoSaid : Prop := heapCountsUptoRow.holds Try.pinned (OpenSpec.upto heapCountsSpec)

/-- 'weftwaylaw20.HeapFreed', WHERE WHAT IT READS IS OF BULK AT MOST 1048576: true; the input reads as it did. -/
def heapFreedUptoRow : OpenClaim := { program := "ytiiojajgajnhpab", sum := "41b1e62ab63e5521634d84534f3b45c8ff05c69cab71971db3493a9f8047b4d5", func := "weftway/weftwaylaw20.HeapFreed", spec := "heapFreed", unfollowed := true, recurses := true, loops := true, apart := false, narrowed := true }
def HeapFreedUptoSaid : Prop := heapFreedUptoRow.holds Try.pinned (OpenSpec.upto heapFreedSpec)

end Rows
end Go.Proofs.Ytiiojajgajnhpab
