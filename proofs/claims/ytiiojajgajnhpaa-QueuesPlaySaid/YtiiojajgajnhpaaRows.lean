/-
  NARROWER THAN 'FOR EVERY INPUT', by the rows' own cells (each row's printed sentence says how): TreeSame: loops · TreeCopies: loops · ValueParts: loops · QueuesNil: loops · QueuesPlay: loops · QueuesOrder: loops · QueuesApart: loops · HeapNil: loops · HeapPlays: loops · HeapApart: loops.
  DERIVED. THE GIVEN ROWS OF THIS SEAT. 12 by the template 'for every input the law returns true; each argument reads behind the call as it read before'; 0 by the template 'total and deterministic' (their statements: YtiiojajgajnhpaaTotals.lean).
  GIVEN WITH THE SEED: the statements are not yours to turn. If you find one false, say at which input.
  Laid BY PROGRAM, IN A SANDBOX (cutbox-rows.mjs): the forced cells as the released guide's own fill.sh prints them over the translation d19799d727389cbb… (all of the seat's roots in one cut). By AI agents, Wed Nov 11 2026. No macro, syntax, notation, axiom, sorry.
-/
import Derived.Test.YtiiojajgajnhpaaChecked
import GoSem.Claim
import GoSem.ClaimJoined
import GoSem.ClaimMapViews
import Derived.JoinedTies
import Derived.KernelRfl
namespace Go.Proofs.Ytiiojajgajnhpaa
/- THE CELL 'sum', in the pinned program and in every row, IS THE sha256 OF THE DUMP (.gsa) THAT YtiiojajgajnhpaaProg.lean LOADS. Nothing in Lean hashes anything: it is a label: what it is worth is what the hold of that sum in a sandbox is worth. -/
noncomputable def Try.pinned : Pinned := { name := "ytiiojajgajnhpaa", sum := "d19799d727389cbbbaa473e3d1ade77fbd58c90d989086660fb12efb34eb4158", checked := Try.checked }
namespace Rows
def none {H : Type} : Left H := { results := [], args := [] }

/-- 'weftwaylaw03.TreeSame': WHATEVER THE INPUT: true; the input reads as it did. -/
def treeSameSpec : ChangeSpec := { name := "treeSame", fn := fun _ => fun
  | [d1, d2, d3, d4, d5, d6] => { results := [.lit (.bool true)], args := [d1, d2, d3, d4, d5, d6] }
  | _ => none }
def treeSameRow : OpenClaim := { program := "ytiiojajgajnhpaa", sum := "d19799d727389cbbbaa473e3d1ade77fbd58c90d989086660fb12efb34eb4158", func := "weftway/weftwaylaw03.TreeSame", spec := "treeSame", unfollowed := true, recurses := true, loops := true, apart := false }
def TreeSameSaid : Prop := treeSameRow.holds Try.pinned (OpenSpec.ofChange treeSameSpec)

/-- ITS FALSE NEIGHBOUR: 'it returns false'. Refute it at one input. -/
def treeSameWrong : ChangeSpec := { name := "treeSame", fn := fun _ => fun
  | [d1, d2, d3, d4, d5, d6] => { results := [.lit (.bool false)], args := [d1, d2, d3, d4, d5, d6] }
  | _ => none }
def TreeSameWrongFalsely : Prop := treeSameRow.holds Try.pinned (OpenSpec.ofChange treeSameWrong)

/-- 'weftwaylaw03.TreeCopies': WHATEVER THE INPUT: true; the input reads as it did. -/
def treeCopiesSpec : ChangeSpec := { name := "treeCopies", fn := fun _ => fun
  | [d] => { results := [.lit (.bool true)], args := [d] }
  | _ => none }
def treeCopiesRow : OpenClaim := { program := "ytiiojajgajnhpaa", sum := "d19799d727389cbbbaa473e3d1ade77fbd58c90d989086660fb12efb34eb4158", func := "weftway/weftwaylaw03.TreeCopies", spec := "treeCopies", unfollowed := true, recurses := true, loops := true, apart := false }
def TreeCopiesSaid : Prop := treeCopiesRow.holds Try.pinned (OpenSpec.ofChange treeCopiesSpec)

/-- ITS FALSE NEIGHBOUR: 'it returns false'. Refute it at one input. -/
def treeCopiesWrong : ChangeSpec := { name := "treeCopies", fn := fun _ => fun
  | [d] => { results := [.lit (.bool false)], args := [d] }
  | _ => none }
def TreeCopiesWrongFalsely : Prop := treeCopiesRow.holds Try.pinned (OpenSpec.ofChange treeCopiesWrong)

/-- 'weftwaylaw19.ValueParts': WHATEVER THE INPUT: true; the input reads as it did. -/
def valuePartsSpec : ChangeSpec := { name := "valueParts", fn := fun _ => fun
  | [d1, d2, d3] => { results := [.lit (.bool true)], args := [d1, d2, d3] }
  | _ => none }
def valuePartsRow : OpenClaim := { program := "ytiiojajgajnhpaa", sum := "d19799d727389cbbbaa473e3d1ade77fbd58c90d989086660fb12efb34eb4158", func := "weftway/weftwaylaw19.ValueParts", spec := "valueParts", unfollowed := true, recurses := true, loops := true, apart := false }
def ValuePartsSaid : Prop := valuePartsRow.holds Try.pinned (OpenSpec.ofChange valuePartsSpec)

/-- ITS FALSE NEIGHBOUR: 'it returns false'. Refute it at one input. -/
def valuePartsWrong : ChangeSpec := { name := "valueParts", fn := fun _ => fun
  | [d1, d2, d3] => { results := [.lit (.bool false)], args := [d1, d2, d3] }
  | _ => none }
def ValuePartsWrongFalsely : Prop := valuePartsRow.holds Try.pinned (OpenSpec.ofChange valuePartsWrong)

/-- 'weftwaylaw23.QueuesNil': WHATEVER THE INPUT: true; the input reads as it did. -/
def queuesNilSpec : ChangeSpec := { name := "queuesNil", fn := fun _ => fun
  | [d] => { results := [.lit (.bool true)], args := [d] }
  | _ => none }
def queuesNilRow : OpenClaim := { program := "ytiiojajgajnhpaa", sum := "d19799d727389cbbbaa473e3d1ade77fbd58c90d989086660fb12efb34eb4158", func := "weftway/weftwaylaw23.QueuesNil", spec := "queuesNil", unfollowed := true, recurses := true, loops := true, apart := false }
def QueuesNilSaid : Prop := queuesNilRow.holds Try.pinned (OpenSpec.ofChange queuesNilSpec)

/-- ITS FALSE NEIGHBOUR: 'it returns false'. Refute it at one input. -/
def queuesNilWrong : ChangeSpec := { name := "queuesNil", fn := fun _ => fun
  | [d] => { results := [.lit (.bool false)], args := [d] }
  | _ => none }
def QueuesNilWrongFalsely : Prop := queuesNilRow.holds Try.pinned (OpenSpec.ofChange queuesNilWrong)

/-- 'weftwaylaw23.QueuesPlay': WHATEVER THE INPUT: true; the input reads as it did. -/
def queuesPlaySpec : ChangeSpec := { name := "queuesPlay", fn := fun _ => fun
  | [d] => { results := [.lit (.bool true)], args := [d] }
  | _ => none }
def queuesPlayRow : OpenClaim := { program := "ytiiojajgajnhpaa", sum := "d19799d727389cbbbaa473e3d1ade77fbd58c90d989086660fb12efb34eb4158", func := "weftway/weftwaylaw23.QueuesPlay", spec := "queuesPlay", unfollowed := true, recurses := true, loops := true, apart := false }
def QueuesPlaySaid : Prop := queuesPlayRow.holds Try.pinned (OpenSpec.ofChange queuesPlaySpec)

/-- ITS FALSE NEIGHBOUR: 'it returns false'. Refute it at one input. -/
def queuesPlayWrong : ChangeSpec := { name := "queuesPlay", fn := fun _ => fun
  | [d] => { results := [.lit (.bool false)], args := [d] }
  | _ => none }
def QueuesPlayWrongFalsely : Prop := queuesPlayRow.holds Try.pinned (OpenSpec.ofChange queuesPlayWrong)

/-- 'weftwaylaw23.QueuesOrder': WHATEVER THE INPUT: true; the input reads as it did. -/
def queuesOrderSpec : ChangeSpec := { name := "queuesOrder", fn := fun _ => fun
  | [d1, d2] => { results := [.lit (.bool true)], args := [d1, d2] }
  | _ => none }
def queuesOrderRow : OpenClaim := { program := "ytiiojajgajnhpaa", sum := "d19799d727389cbbbaa473e3d1ade77fbd58c90d989086660fb12efb34eb4158", func := "weftway/weftwaylaw23.QueuesOrder", spec := "queuesOrder", unfollowed := true, recurses := true, loops := true, apart := false }
def QueuesOrderSaid : Prop := queuesOrderRow.holds Try.pinned (OpenSpec.ofChange queuesOrderSpec)

/-- ITS FALSE NEIGHBOUR: 'it returns false'. Refute it at one input. -/
def queuesOrderWrong : ChangeSpec := { name := "queuesOrder", fn := fun _ => fun
  | [d1, d2] => { results := [.lit (.bool false)], args := [d1, d2] }
  | _ => none }
def QueuesOrderWrongFalsely : Prop := queuesOrderRow.holds Try.pinned (OpenSpec.ofChange queuesOrderWrong)

/-- 'weftwaylaw23.QueuesApart': WHATEVER THE INPUT: true; the input reads as it did. -/
def queuesApartSpec : ChangeSpec := { name := "queuesApart", fn := fun _ => fun
  | [d1, d2] => { results := [.lit (.bool true)], args := [d1, d2] }
  | _ => none }
def queuesApartRow : OpenClaim := { program := "ytiiojajgajnhpaa", sum := "d19799d727389cbbbaa473e3d1ade77fbd58c90d989086660fb12efb34eb4158", func := "weftway/weftwaylaw23.QueuesApart", spec := "queuesApart", unfollowed := true, recurses := true, loops := true, apart := false }
def QueuesApartSaid : Prop := queuesApartRow.holds Try.pinned (OpenSpec.ofChange queuesApartSpec)

/-- ITS FALSE NEIGHBOUR: 'it returns false'. Refute it at one input. -/
def queuesApartWrong : ChangeSpec := { name := "queuesApart", fn := fun _ => fun
  | [d1, d2] => { results := [.lit (.bool false)], args := [d1, d2] }
  | _ => none }
def QueuesApartWrongFalsely : Prop := queuesApartRow.holds Try.pinned (OpenSpec.ofChange queuesApartWrong)

/-- 'weftwaylaw23.QueuesRoom': WHATEVER THE INPUT: true; the input reads as it did. -/
def queuesRoomSpec : ChangeSpec := { name := "queuesRoom", fn := fun _ => fun
  | [d1, d2] => { results := [.lit (.bool true)], args := [d1, d2] }
  | _ => none }
def queuesRoomRow : OpenClaim := { program := "ytiiojajgajnhpaa", sum := "d19799d727389cbbbaa473e3d1ade77fbd58c90d989086660fb12efb34eb4158", func := "weftway/weftwaylaw23.QueuesRoom", spec := "queuesRoom", unfollowed := true, recurses := true, apart := false }
def QueuesRoomSaid : Prop := queuesRoomRow.holds Try.pinned (OpenSpec.ofChange queuesRoomSpec)

/-- ITS FALSE NEIGHBOUR: 'it returns false'. Refute it at one input. -/
def queuesRoomWrong : ChangeSpec := { name := "queuesRoom", fn := fun _ => fun
  | [d1, d2] => { results := [.lit (.bool false)], args := [d1, d2] }
  | _ => none }
def QueuesRoomWrongFalsely : Prop := queuesRoomRow.holds Try.pinned (OpenSpec.ofChange queuesRoomWrong)

/-- 'weftwaylaw23.QueuesRound': WHATEVER THE INPUT: true; the input reads as it did. -/
def queuesRoundSpec : ChangeSpec := { name := "queuesRound", fn := fun _ => fun
  | [d1, d2, d3] => { results := [.lit (.bool true)], args := [d1, d2, d3] }
  | _ => none }
def queuesRoundRow : OpenClaim := { program := "ytiiojajgajnhpaa", sum := "d19799d727389cbbbaa473e3d1ade77fbd58c90d989086660fb12efb34eb4158", func := "weftway/weftwaylaw23.QueuesRound", spec := "queuesRound", unfollowed := true, recurses := true, apart := false }
def QueuesRoundSaid : Prop := queuesRoundRow.holds Try.pinned (OpenSpec.ofChange queuesRoundSpec)

/-- ITS FALSE NEIGHBOUR: 'it returns false'. Refute it at one input. -/
def queuesRoundWrong : ChangeSpec := { name := "queuesRound", fn := fun _ => fun
  | [d1, d2, d3] => { results := [.lit (.bool false)], args := [d1, d2, d3] }
  | _ => none }
def QueuesRoundWrongFalsely : Prop := queuesRoundRow.holds Try.pinned (OpenSpec.ofChange queuesRoundWrong)

/-- 'weftwaylaw20.HeapNil': WHATEVER THE INPUT: true; the input reads as it did. -/
def heapNilSpec : ChangeSpec := { name := "heapNil", fn := fun _ => fun
  | [d] => { results := [.lit (.bool true)], args := [d] }
  | _ => none }
def heapNilRow : OpenClaim := { program := "ytiiojajgajnhpaa", sum := "d19799d727389cbbbaa473e3d1ade77fbd58c90d989086660fb12efb34eb4158", func := "weftway/weftwaylaw20.HeapNil", spec := "heapNil", unfollowed := true, recurses := true, loops := true, apart := false }
def HeapNilSaid : Prop := heapNilRow.holds Try.pinned (OpenSpec.ofChange heapNilSpec)

/-- ITS FALSE NEIGHBOUR: 'it returns false'. Refute it at one input. -/
def heapNilWrong : ChangeSpec := { name := "heapNil", fn := fun _ => fun
  | [d] => { results := [.lit (.bool false)], args := [d] }
  | _ => none }
def HeapNilWrongFalsely : Prop := heapNilRow.holds Try.pinned (OpenSpec.ofChange heapNilWrong)

/-- 'weftwaylaw20.HeapPlays': WHATEVER THE INPUT: true; the input reads as it did. -/
def heapPlaysSpec : ChangeSpec := { name := "heapPlays", fn := fun _ => fun
  | [d1, d2] => { results := [.lit (.bool true)], args := [d1, d2] }
  | _ => none }
def heapPlaysRow : OpenClaim := { program := "ytiiojajgajnhpaa", sum := "d19799d727389cbbbaa473e3d1ade77fbd58c90d989086660fb12efb34eb4158", func := "weftway/weftwaylaw20.HeapPlays", spec := "heapPlays", unfollowed := true, recurses := true, loops := true, apart := false }
def HeapPlaysSaid : Prop := heapPlaysRow.holds Try.pinned (OpenSpec.ofChange heapPlaysSpec)

/-- ITS FALSE NEIGHBOUR: 'it returns false'. Refute it at one input. -/
def heapPlaysWrong : ChangeSpec := { name := "heapPlays", fn := fun _ => fun
  | [d1, d2] => { results := [.lit (.bool false)], args := [d1, d2] }
  | _ => none }
def HeapPlaysWrongFalsely : Prop := heapPlaysRow.holds Try.pinned (OpenSpec.ofChange heapPlaysWrong)

/-- 'weftwaylaw20.HeapApart': WHATEVER THE INPUT: true; the input reads as it did. -/
def heapApartSpec : ChangeSpec := { name := "heapApart", fn := fun _ => fun
  | [d] => { results := [.lit (.bool true)], args := [d] }
  | _ => none }
def heapApartRow : OpenClaim := { program := "ytiiojajgajnhpaa", sum := "d19799d727389cbbbaa473e3d1ade77fbd58c90d989086660fb12efb34eb4158", func := "weftway/weftwaylaw20.HeapApart", spec := "heapApart", unfollowed := true, recurses := true, loops := true, apart := false }
def HeapApartSaid : Prop := heapApartRow.holds Try.pinned (OpenSpec.ofChange heapApartSpec)

/-- ITS FALSE NEIGHBOUR: 'it returns false'. Refute it at one input. -/
def heapApartWrong : ChangeSpec := { name := "heapApart", fn := fun _ => fun
  | [d] => { results := [.lit (.bool false)], args := [d] }
  | _ => none }
def HeapApartWrongFalsely : Prop := heapApartRow.holds Try.pinned (OpenSpec.ofChange heapApartWrong)

/- THE SECOND FORM. 'bulk': how many values and letters a reading holds, each counted each time it is reached (what is shared counts as often as it is met; a slice's spare places count too). A statement '..UptoSaid' is the law's where the arguments, and the package variables that the reading takes, are together of bulk at most 1048576: NARROWER than '..Said'. Prove '..Said' where nothing that the law and all that it calls make is longer than what came in: it says more and counts as full. Else prove '..UptoSaid'. A law counts once. -/
mutual
def uptoBulk {H : Type} : DataW H → Nat
  | .lit (.string bytes) => bytes.length + 1
  | .lit _ => 1
  | .nil => 1
  | .ptr d => uptoBulk d + 1
  | .slice elems spare => uptoBulkAll elems + uptoBulkAll spare + 1
  | .agg parts => uptoBulkAll parts + 1
  | .iface _ d => uptoBulk d + 1
  | .map entries => uptoBulkEntries entries + 1
  | .held _ => 1
def uptoBulkAll {H : Type} : List (DataW H) → Nat
  | [] => 0
  | d :: r => uptoBulk d + uptoBulkAll r
def uptoBulkEntries {H : Type} : List (Lit × DataW H) → Nat
  | [] => 0
  | x :: r => uptoBulkEntry x + uptoBulkEntries r
def uptoBulkEntry {H : Type} : Lit × DataW H → Nat
  | (.string bytes, d) => bytes.length + uptoBulk d + 1
  | (_, d) => uptoBulk d + 1
 end
def uptoSmall : (H : Type) → List (DataW H) → Bool := fun _ ds => decide (uptoBulkAll ds ≤ 1048576)
def OpenSpec.upto (s : _root_.Go.ChangeSpec) : _root_.Go.OpenSpec := { _root_.Go.OpenSpec.ofChange s with cond := some uptoSmall }

/-- 'weftwaylaw03.TreeSame', WHERE WHAT IT READS IS OF BULK AT MOST 1048576: true; the input reads as it did. -/
def treeSameUptoRow : OpenClaim := { program := "ytiiojajgajnhpaa", sum := "d19799d727389cbbbaa473e3d1ade77fbd58c90d989086660fb12efb34eb4158", func := "weftway/weftwaylaw03.TreeSame", spec := "treeSame", unfollowed := true, recurses := true, loops := true, apart := false, narrowed := true }
def TreeSameUptoSaid : Prop := treeSameUptoRow.holds Try.pinned (OpenSpec.upto treeSameSpec)

/-- 'weftwaylaw03.TreeCopies', WHERE WHAT IT READS IS OF BULK AT MOST 1048576: true; the input reads as it did. -/
def treeCopiesUptoRow : OpenClaim := { program := "ytiiojajgajnhpaa", sum := "d19799d727389cbbbaa473e3d1ade77fbd58c90d989086660fb12efb34eb4158", func := "weftway/weftwaylaw03.TreeCopies", spec := "treeCopies", unfollowed := true, recurses := true, loops := true, apart := false, narrowed := true }
def TreeCopiesUptoSaid : Prop := treeCopiesUptoRow.holds Try.pinned (OpenSpec.upto treeCopiesSpec)

/-- 'weftwaylaw19.ValueParts', WHERE WHAT IT READS IS OF BULK AT MOST 1048576: true; the input reads as it did. -/
def valuePartsUptoRow : OpenClaim := { program := "ytiiojajgajnhpaa", sum := "d19799d727389cbbbaa473e3d1ade77fbd58c90d989086660fb12efb34eb4158", func := "weftway/weftwaylaw19.ValueParts", spec := "valueParts", unfollowed := true, recurses := true, loops := true, apart := false, narrowed := true }
def ValuePartsUptoSaid : Prop := valuePartsUptoRow.holds Try.pinned (OpenSpec.upto valuePartsSpec)

/-- 'weftwaylaw23.QueuesNil', WHERE WHAT IT READS IS OF BULK AT MOST 1048576: true; the input reads as it did. -/
def queuesNilUptoRow : OpenClaim := { program := "ytiiojajgajnhpaa", sum := "d19799d727389cbbbaa473e3d1ade77fbd58c90d989086660fb12efb34eb4158", func := "weftway/weftwaylaw23.QueuesNil", spec := "queuesNil", unfollowed := true, recurses := true, loops := true, apart := false, narrowed := true }
def QueuesNilUptoSaid : Prop := queuesNilUptoRow.holds Try.pinned (OpenSpec.upto queuesNilSpec)

/-- 'weftwaylaw23.QueuesPlay', WHERE WHAT IT READS IS OF BULK AT MOST 1048576: true; the input reads as it did. -/
def queuesPlayUptoRow : OpenClaim := { program := "ytiiojajgajnhpaa", sum := "d19799d727389cbbbaa473e3d1ade77fbd58c90d989086660fb12efb34eb4158", func := "weftway/weftwaylaw23.QueuesPlay", spec := "queuesPlay", unfollowed := true, recurses := true, loops := true, apart := false, narrowed := true }
def QueuesPlayUptoSaid : Prop := queuesPlayUptoRow.holds Try.pinned (OpenSpec.upto queuesPlaySpec)

/-- 'weftwaylaw23.QueuesOrder', WHERE WHAT IT READS IS OF BULK AT MOST 1048576: true; the input reads as it did. -/
def queuesOrderUptoRow : OpenClaim := { program := "ytiiojajgajnhpaa", sum := "d19799d727389cbbbaa473e3d1ade77fbd58c90d989086660fb12efb34eb4158", func := "weftway/weftwaylaw23.QueuesOrder", spec := "queuesOrder", unfollowed := true, recurses := true, loops := true, apart := false, narrowed := true }
def QueuesOrderUptoSaid : Prop := queuesOrderUptoRow.holds Try.pinned (OpenSpec.upto queuesOrderSpec)

/-- 'weftwaylaw23.QueuesApart', WHERE WHAT IT READS IS OF BULK AT MOST 1048576: true; the input reads as it did. -/
def queuesApartUptoRow : OpenClaim := { program := "ytiiojajgajnhpaa", sum := "d19799d727389cbbbaa473e3d1ade77fbd58c90d989086660fb12efb34eb4158", func := "weftway/weftwaylaw23.QueuesApart", spec := "queuesApart", unfollowed := true, recurses := true, loops := true, apart := false, narrowed := true }
def QueuesApartUptoSaid : Prop := queuesApartUptoRow.holds Try.pinned (OpenSpec.upto queuesApartSpec)

/-- 'weftwaylaw23.QueuesRoom', WHERE WHAT IT READS IS OF BULK AT MOST 1048576: true; the input reads as it did. -/
def queuesRoomUptoRow : OpenClaim := { program := "ytiiojajgajnhpaa", sum := "d19799d727389cbbbaa473e3d1ade77fbd58c90d989086660fb12efb34eb4158", func := "weftway/weftwaylaw23.QueuesRoom", spec := "queuesRoom", unfollowed := true, recurses := true, apart := false, narrowed := true }
def QueuesRoomUptoSaid : Prop := queuesRoomUptoRow.holds Try.pinned (OpenSpec.upto queuesRoomSpec)

/-- 'weftwaylaw23.QueuesRound', WHERE WHAT IT READS IS OF BULK AT MOST 1048576: true; the input reads as it did. -/
def queuesRoundUptoRow : OpenClaim := { program := "ytiiojajgajnhpaa", sum := "d19799d727389cbbbaa473e3d1ade77fbd58c90d989086660fb12efb34eb4158", func := "weftway/weftwaylaw23.QueuesRound", spec := "queuesRound", unfollowed := true, recurses := true, apart := false, narrowed := true }
def QueuesRoundUptoSaid : Prop := queuesRoundUptoRow.holds Try.pinned (OpenSpec.upto queuesRoundSpec)

/-- 'weftwaylaw20.HeapNil', WHERE WHAT IT READS IS OF BULK AT MOST 1048576: true; the input reads as it did. -/
def heapNilUptoRow : OpenClaim := { program := "ytiiojajgajnhpaa", sum := "d19799d727389cbbbaa473e3d1ade77fbd58c90d989086660fb12efb34eb4158", func := "weftway/weftwaylaw20.HeapNil", spec := "heapNil", unfollowed := true, recurses := true, loops := true, apart := false, narrowed := true }
def HeapNilUptoSaid : Prop := heapNilUptoRow.holds Try.pinned (OpenSpec.upto heapNilSpec)

/-- 'weftwaylaw20.HeapPlays', WHERE WHAT IT READS IS OF BULK AT MOST 1048576: true; the input reads as it did. -/
def heapPlaysUptoRow : OpenClaim := { program := "ytiiojajgajnhpaa", sum := "d19799d727389cbbbaa473e3d1ade77fbd58c90d989086660fb12efb34eb4158", func := "weftway/weftwaylaw20.HeapPlays", spec := "heapPlays", unfollowed := true, recurses := true, loops := true, apart := false, narrowed := true }
def HeapPlaysUptoSaid : Prop := heapPlaysUptoRow.holds Try.pinned (OpenSpec.upto heapPlaysSpec)

/-- 'weftwaylaw20.HeapApart', WHERE WHAT IT READS IS OF BULK AT MOST 1048576: true; the input reads as it did. -/
def heapApartUptoRow : OpenClaim := { program := "ytiiojajgajnhpaa", sum := "d19799d727389cbbbaa473e3d1ade77fbd58c90d989086660fb12efb34eb4158", func := "weftway/weftwaylaw20.HeapApart", spec := "heapApart", unfollowed := true, recurses := true, loops := true, apart := false, narrowed := true }
def HeapApartUptoSaid : Prop := heapApartUptoRow.holds Try.pinned (OpenSpec.upto heapApartSpec)

end Rows
end Go.Proofs.Ytiiojajgajnhpaa
