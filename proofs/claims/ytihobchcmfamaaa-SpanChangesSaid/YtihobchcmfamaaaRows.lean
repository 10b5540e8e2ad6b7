/-
  No cell of these rows narrows 'for every input' (looked for: loops, veiled, ifaces, maps, wideKeys, modest, calm, conditions, laid).
  DERIVED. THE GIVEN ROWS OF THIS SEAT. 11 by the template 'for every input the law returns true; each argument reads behind the call as it read before'; 0 by the template 'total and deterministic' (their statements: YtihobchcmfamaaaTotals.lean).
  GIVEN WITH THE SEED: the statements are not yours to turn. If you find one false, say at which input.
  Laid BY PROGRAM, IN A SANDBOX (cutbox-rows.mjs): the forced cells as the released guide's own fill.sh prints them over the translation ffc0e9b4a3d37001… (all of the seat's roots in one cut). By AI agents, Wed Nov 11 2026. No macro, syntax, notation, axiom, sorry.
-/
import Derived.Test.YtihobchcmfamaaaChecked
import GoSem.Claim
import GoSem.ClaimJoined
import GoSem.ClaimMapViews
import Derived.JoinedTies
import Derived.KernelRfl
namespace Go.Proofs.Ytihobchcmfamaaa
/- THE CELL 'sum', in the pinned program and in every row, IS THE sha256 OF THE DUMP (.gsa) THAT YtihobchcmfamaaaProg.lean LOADS. Nothing in Lean hashes anything: it is a label: what it is worth is what the hold of that sum in a sandbox is worth. -/
noncomputable def Try.pinned : Pinned := { name := "ytihobchcmfamaaa", sum := "ffc0e9b4a3d370017eb5519ab9b279e605f0b4f43d044505ca684a3c3351c081", checked := Try.checked }
namespace Rows
def none {H : Type} : Left H := { results := [], args := [] }

/-- 'polliwoglaw09.GapsMoves': WHATEVER THE INPUT: true; the input reads as it did. -/
def gapsMovesSpec : ChangeSpec := { name := "gapsMoves", fn := fun _ => fun
  | [d1, d2, d3] => { results := [.lit (.bool true)], args := [d1, d2, d3] }
  | _ => none }
def gapsMovesRow : OpenClaim := { program := "ytihobchcmfamaaa", sum := "ffc0e9b4a3d370017eb5519ab9b279e605f0b4f43d044505ca684a3c3351c081", func := "polliwog/polliwoglaw09.GapsMoves", spec := "gapsMoves", unfollowed := true, recurses := true, apart := false }
def GapsMovesSaid : Prop := gapsMovesRow.holds Try.pinned (OpenSpec.ofChange gapsMovesSpec)

/-- ITS FALSE NEIGHBOUR: 'it returns false'. Refute it at one input. -/
def gapsMovesWrong : ChangeSpec := { name := "gapsMoves", fn := fun _ => fun
  | [d1, d2, d3] => { results := [.lit (.bool false)], args := [d1, d2, d3] }
  | _ => none }
def GapsMovesWrongFalsely : Prop := gapsMovesRow.holds Try.pinned (OpenSpec.ofChange gapsMovesWrong)

/-- 'polliwoglaw03.SpanTwo': WHATEVER THE INPUT: true; the input reads as it did. -/
def spanTwoSpec : ChangeSpec := { name := "spanTwo", fn := fun _ => fun
  | [d1, d2] => { results := [.lit (.bool true)], args := [d1, d2] }
  | _ => none }
def spanTwoRow : OpenClaim := { program := "ytihobchcmfamaaa", sum := "ffc0e9b4a3d370017eb5519ab9b279e605f0b4f43d044505ca684a3c3351c081", func := "polliwog/polliwoglaw03.SpanTwo", spec := "spanTwo", unfollowed := true, recurses := true, apart := false }
def SpanTwoSaid : Prop := spanTwoRow.holds Try.pinned (OpenSpec.ofChange spanTwoSpec)

/-- ITS FALSE NEIGHBOUR: 'it returns false'. Refute it at one input. -/
def spanTwoWrong : ChangeSpec := { name := "spanTwo", fn := fun _ => fun
  | [d1, d2] => { results := [.lit (.bool false)], args := [d1, d2] }
  | _ => none }
def SpanTwoWrongFalsely : Prop := spanTwoRow.holds Try.pinned (OpenSpec.ofChange spanTwoWrong)

/-- 'polliwoglaw03.SpanOrder': WHATEVER THE INPUT: true; the input reads as it did. -/
def spanOrderSpec : ChangeSpec := { name := "spanOrder", fn := fun _ => fun
  | [d1, d2] => { results := [.lit (.bool true)], args := [d1, d2] }
  | _ => none }
def spanOrderRow : OpenClaim := { program := "ytihobchcmfamaaa", sum := "ffc0e9b4a3d370017eb5519ab9b279e605f0b4f43d044505ca684a3c3351c081", func := "polliwog/polliwoglaw03.SpanOrder", spec := "spanOrder", unfollowed := true, recurses := true, apart := false }
def SpanOrderSaid : Prop := spanOrderRow.holds Try.pinned (OpenSpec.ofChange spanOrderSpec)

/-- ITS FALSE NEIGHBOUR: 'it returns false'. Refute it at one input. -/
def spanOrderWrong : ChangeSpec := { name := "spanOrder", fn := fun _ => fun
  | [d1, d2] => { results := [.lit (.bool false)], args := [d1, d2] }
  | _ => none }
def SpanOrderWrongFalsely : Prop := spanOrderRow.holds Try.pinned (OpenSpec.ofChange spanOrderWrong)

/-- 'polliwoglaw03.SpanChanges': WHATEVER THE INPUT: true; the input reads as it did. -/
def spanChangesSpec : ChangeSpec := { name := "spanChanges", fn := fun _ => fun
  | [d1, d2] => { results := [.lit (.bool true)], args := [d1, d2] }
  | _ => none }
def spanChangesRow : OpenClaim := { program := "ytihobchcmfamaaa", sum := "ffc0e9b4a3d370017eb5519ab9b279e605f0b4f43d044505ca684a3c3351c081", func := "polliwog/polliwoglaw03.SpanChanges", spec := "spanChanges", unfollowed := true, recurses := true, apart := false }
def SpanChangesSaid : Prop := spanChangesRow.holds Try.pinned (OpenSpec.ofChange spanChangesSpec)

/-- ITS FALSE NEIGHBOUR: 'it returns false'. Refute it at one input. -/
def spanChangesWrong : ChangeSpec := { name := "spanChanges", fn := fun _ => fun
  | [d1, d2] => { results := [.lit (.bool false)], args := [d1, d2] }
  | _ => none }
def SpanChangesWrongFalsely : Prop := spanChangesRow.holds Try.pinned (OpenSpec.ofChange spanChangesWrong)

/-- 'polliwoglaw09.GapsNamed': WHATEVER THE INPUT: true; the input reads as it did. -/
def gapsNamedSpec : ChangeSpec := { name := "gapsNamed", fn := fun _ => fun
  | [d1, d2] => { results := [.lit (.bool true)], args := [d1, d2] }
  | _ => none }
def gapsNamedRow : OpenClaim := { program := "ytihobchcmfamaaa", sum := "ffc0e9b4a3d370017eb5519ab9b279e605f0b4f43d044505ca684a3c3351c081", func := "polliwog/polliwoglaw09.GapsNamed", spec := "gapsNamed", unfollowed := true, recurses := true, apart := false }
def GapsNamedSaid : Prop := gapsNamedRow.holds Try.pinned (OpenSpec.ofChange gapsNamedSpec)

/-- ITS FALSE NEIGHBOUR: 'it returns false'. Refute it at one input. -/
def gapsNamedWrong : ChangeSpec := { name := "gapsNamed", fn := fun _ => fun
  | [d1, d2] => { results := [.lit (.bool false)], args := [d1, d2] }
  | _ => none }
def GapsNamedWrongFalsely : Prop := gapsNamedRow.holds Try.pinned (OpenSpec.ofChange gapsNamedWrong)

/-- 'polliwoglaw09.GapsFar': WHATEVER THE INPUT: true; the input reads as it did. -/
def gapsFarSpec : ChangeSpec := { name := "gapsFar", fn := fun _ => fun
  | [d1, d2, d3] => { results := [.lit (.bool true)], args := [d1, d2, d3] }
  | _ => none }
def gapsFarRow : OpenClaim := { program := "ytihobchcmfamaaa", sum := "ffc0e9b4a3d370017eb5519ab9b279e605f0b4f43d044505ca684a3c3351c081", func := "polliwog/polliwoglaw09.GapsFar", spec := "gapsFar", unfollowed := true, recurses := true, apart := false }
def GapsFarSaid : Prop := gapsFarRow.holds Try.pinned (OpenSpec.ofChange gapsFarSpec)

/-- ITS FALSE NEIGHBOUR: 'it returns false'. Refute it at one input. -/
def gapsFarWrong : ChangeSpec := { name := "gapsFar", fn := fun _ => fun
  | [d1, d2, d3] => { results := [.lit (.bool false)], args := [d1, d2, d3] }
  | _ => none }
def GapsFarWrongFalsely : Prop := gapsFarRow.holds Try.pinned (OpenSpec.ofChange gapsFarWrong)

/-- 'polliwoglaw03.SpanOf': WHATEVER THE INPUT: true; the input reads as it did. -/
def spanOfSpec : ChangeSpec := { name := "spanOf", fn := fun _ => fun
  | [d1, d2] => { results := [.lit (.bool true)], args := [d1, d2] }
  | _ => none }
def spanOfRow : OpenClaim := { program := "ytihobchcmfamaaa", sum := "ffc0e9b4a3d370017eb5519ab9b279e605f0b4f43d044505ca684a3c3351c081", func := "polliwog/polliwoglaw03.SpanOf", spec := "spanOf", unfollowed := true, recurses := true, apart := false }
def SpanOfSaid : Prop := spanOfRow.holds Try.pinned (OpenSpec.ofChange spanOfSpec)

/-- ITS FALSE NEIGHBOUR: 'it returns false'. Refute it at one input. -/
def spanOfWrong : ChangeSpec := { name := "spanOf", fn := fun _ => fun
  | [d1, d2] => { results := [.lit (.bool false)], args := [d1, d2] }
  | _ => none }
def SpanOfWrongFalsely : Prop := spanOfRow.holds Try.pinned (OpenSpec.ofChange spanOfWrong)

/-- 'polliwoglaw09.GapsEmpty': WHATEVER THE INPUT: true; the input reads as it did. -/
def gapsEmptySpec : ChangeSpec := { name := "gapsEmpty", fn := fun _ => fun
  | [d1, d2] => { results := [.lit (.bool true)], args := [d1, d2] }
  | _ => none }
def gapsEmptyRow : OpenClaim := { program := "ytihobchcmfamaaa", sum := "ffc0e9b4a3d370017eb5519ab9b279e605f0b4f43d044505ca684a3c3351c081", func := "polliwog/polliwoglaw09.GapsEmpty", spec := "gapsEmpty", unfollowed := true, recurses := true, apart := false }
def GapsEmptySaid : Prop := gapsEmptyRow.holds Try.pinned (OpenSpec.ofChange gapsEmptySpec)

/-- ITS FALSE NEIGHBOUR: 'it returns false'. Refute it at one input. -/
def gapsEmptyWrong : ChangeSpec := { name := "gapsEmpty", fn := fun _ => fun
  | [d1, d2] => { results := [.lit (.bool false)], args := [d1, d2] }
  | _ => none }
def GapsEmptyWrongFalsely : Prop := gapsEmptyRow.holds Try.pinned (OpenSpec.ofChange gapsEmptyWrong)

/-- 'polliwoglaw03.SpanApart': WHATEVER THE INPUT: true; the input reads as it did. -/
def spanApartSpec : ChangeSpec := { name := "spanApart", fn := fun _ => fun
  | [d1, d2, d3] => { results := [.lit (.bool true)], args := [d1, d2, d3] }
  | _ => none }
def spanApartRow : OpenClaim := { program := "ytihobchcmfamaaa", sum := "ffc0e9b4a3d370017eb5519ab9b279e605f0b4f43d044505ca684a3c3351c081", func := "polliwog/polliwoglaw03.SpanApart", spec := "spanApart", unfollowed := true, recurses := true, apart := false }
def SpanApartSaid : Prop := spanApartRow.holds Try.pinned (OpenSpec.ofChange spanApartSpec)

/-- ITS FALSE NEIGHBOUR: 'it returns false'. Refute it at one input. -/
def spanApartWrong : ChangeSpec := { name := "spanApart", fn := fun _ => fun
  | [d1, d2, d3] => { results := [.lit (.bool false)], args := [d1, d2, d3] }
  | _ => none }
def SpanApartWrongFalsely : Prop := spanApartRow.holds Try.pinned (OpenSpec.ofChange spanApartWrong)

/-- 'polliwoglaw09.GapsLists': WHATEVER THE INPUT: true; the input reads as it did. -/
def gapsListsSpec : ChangeSpec := { name := "gapsLists", fn := fun _ => fun
  | [d1, d2, d3] => { results := [.lit (.bool true)], args := [d1, d2, d3] }
  | _ => none }
def gapsListsRow : OpenClaim := { program := "ytihobchcmfamaaa", sum := "ffc0e9b4a3d370017eb5519ab9b279e605f0b4f43d044505ca684a3c3351c081", func := "polliwog/polliwoglaw09.GapsLists", spec := "gapsLists", unfollowed := true, recurses := true, apart := false }
def GapsListsSaid : Prop := gapsListsRow.holds Try.pinned (OpenSpec.ofChange gapsListsSpec)

/-- ITS FALSE NEIGHBOUR: 'it returns false'. Refute it at one input. -/
def gapsListsWrong : ChangeSpec := { name := "gapsLists", fn := fun _ => fun
  | [d1, d2, d3] => { results := [.lit (.bool false)], args := [d1, d2, d3] }
  | _ => none }
def GapsListsWrongFalsely : Prop := gapsListsRow.holds Try.pinned (OpenSpec.ofChange gapsListsWrong)

/-- 'polliwoglaw09.GapsSets': WHATEVER THE INPUT: true; the input reads as it did. -/
def gapsSetsSpec : ChangeSpec := { name := "gapsSets", fn := fun _ => fun
  | [d1, d2, d3] => { results := [.lit (.bool true)], args := [d1, d2, d3] }
  | _ => none }
def gapsSetsRow : OpenClaim := { program := "ytihobchcmfamaaa", sum := "ffc0e9b4a3d370017eb5519ab9b279e605f0b4f43d044505ca684a3c3351c081", func := "polliwog/polliwoglaw09.GapsSets", spec := "gapsSets", unfollowed := true, recurses := true, apart := false }
def GapsSetsSaid : Prop := gapsSetsRow.holds Try.pinned (OpenSpec.ofChange gapsSetsSpec)

/-- ITS FALSE NEIGHBOUR: 'it returns false'. Refute it at one input. -/
def gapsSetsWrong : ChangeSpec := { name := "gapsSets", fn := fun _ => fun
  | [d1, d2, d3] => { results := [.lit (.bool false)], args := [d1, d2, d3] }
  | _ => none }
def GapsSetsWrongFalsely : Prop := gapsSetsRow.holds Try.pinned (OpenSpec.ofChange gapsSetsWrong)

/- THE SECOND FORM. 'bulk': how many values and letters a reading holds, each counted each time it is reached (what is shared counts as often as it is met; a slice's spare places count too). A statement '..UptoSaid' is the law's where the arguments, and the package variables that the reading takes, are together of bulk at most 1048576: NARROWER than '..Said'. Prove '..Said' where nothing that the law and all that it calls make is longer than what came in: it says more and counts as full. Else prove '..UptoSaid'. A law counts once. -/
mutual
def uptoBulk {H : Type} : DataW H → Nat
  | .lit (.string bytes) => bytes.length + 1
  | .lit _ => 1
  | .nil => 1
  | .ptr d => uptoBulk d + 1
  | .slice elems spare => uptoBulkAll elems + uptoBulkAll spare + 1
  | .agg parts => uptoBulkAll parts + 1
  | .iface _ d => uptoBulk d + 1
  | .map entries => uptoBulkEntries entries + 1
  | .held _ => 1
def uptoBulkAll {H : Type} : List (DataW H) → Nat
  | [] => 0
  | d :: r => uptoBulk d + uptoBulkAll r
def uptoBulkEntries {H : Type} : List (Lit × DataW H) → Nat
  | [] => 0
  | x :: r => uptoBulkEntry x + uptoBulkEntries r
def uptoBulkEntry {H : Type} : Lit × DataW H → Nat
  | (.string bytes, d) => bytes.length + uptoBulk d + 1
  | (_, d) => uptoBulk d + 1
 end
def uptoSmall : (H : Type) → List (DataW H) → Bool := fun _ ds => decide (uptoBulkAll ds ≤ 1048576)
def OpenSpec.upto (s : _root_.Go.ChangeSpec) : _root_.Go.OpenSpec := { _root_.Go.OpenSpec.ofChange s with cond := some uptoSmall }

/-- 'polliwoglaw09.GapsMoves', WHERE WHAT IT READS IS OF BULK AT MOST 1048576: true; the input reads as it did. -/
def gapsMovesUptoRow : OpenClaim := { program := "ytihobchcmfamaaa", sum := "ffc0e9b4a3d370017eb5519ab9b279e605f0b4f43d044505ca684a3c3351c081", func := "polliwog/polliwoglaw09.GapsMoves", spec := "gapsMoves", unfollowed := true, recurses := true, apart := false, narrowed := true }
def GapsMovesUptoSaid : Prop := gapsMovesUptoRow.holds Try.pinned (OpenSpec.upto gapsMovesSpec)

/-- 'polliwoglaw03.SpanTwo', WHERE WHAT IT READS IS OF BULK AT MOST 1048576: true; the input reads as it did. -/
def spanTwoUptoRow : OpenClaim := { program := "ytihobchcmfamaaa", sum := "ffc0e9b4a3d370017eb5519ab9b279e605f0b4f43d044505ca684a3c3351c081", func := "polliwog/polliwoglaw03.SpanTwo", spec := "spanTwo", unfollowed := true, recurses := true, apart := false, narrowed := true }
def SpanTwoUptoSaid : Prop := spanTwoUptoRow.holds Try.pinned (OpenSpec.upto spanTwoSpec)

/-- 'polliwoglaw03.SpanOrder', WHERE WHAT IT READS IS OF BULK AT MOST 1048576: true; the input reads as it did. -/
def spanOrderUptoRow : OpenClaim := { program := "ytihobchcmfamaaa", sum := "ffc0e9b4a3d370017eb5519ab9b279e605f0b4f43d044505ca684a3c3351c081", func := "polliwog/polliwoglaw03.SpanOrder", spec := "spanOrder", unfollowed := true, recurses := true, apart := false, narrowed := true }
def SpanOrderUptoSaid : Prop := spanOrderUptoRow.holds Try.pinned (OpenSpec.upto spanOrderSpec)

/-- 'polliwoglaw03.SpanChanges', WHERE WHAT IT READS IS OF BULK AT MOST 1048576: true; the input reads as it did. -/
def spanChangesUptoRow : OpenClaim := { program := "ytihobchcmfamaaa", sum := "ffc0e9b4a3d370017eb5519ab9b279e605f0b4f43d044505ca684a3c3351c081", func := "polliwog/polliwoglaw03.SpanChanges", spec := "spanChanges", unfollowed := true, recurses := true, apart := false, narrowed := true }
def SpanChangesUptoSaid : Prop := spanChangesUptoRow.holds Try.pinned (OpenSpec.upto spanChangesSpec)

/-- 'polliwoglaw09.GapsNamed', WHERE WHAT IT READS IS OF BULK AT MOST 1048576: true; the input reads as it did. -/
def gapsNamedUptoRow : OpenClaim := { program := "ytihobchcmfamaaa", sum := "ffc0e9b4a3d370017eb5519ab9b279e605f0b4f43d044505ca684a3c3351c081", func := "polliwog/polliwoglaw09.GapsNamed", spec := "gapsNamed", unfollowed := true, recurses := true, apart := false, narrowed := true }
def GapsNamedUptoSaid : Prop := gapsNamedUptoRow.holds Try.pinned (OpenSpec.upto gapsNamedSpec)

/-- 'polliwoglaw09.GapsFar', WHERE WHAT IT READS IS OF BULK AT MOST 1048576: true; the input reads as it did. -/
def gapsFarUptoRow : OpenClaim := { program := "ytihobchcmfamaaa", sum := "ffc0e9b4a3d370017eb5519ab9b279e605f0b4f43d044505ca684a3c3351c081", func := "polliwog/polliwoglaw09.GapsFar", spec := "gapsFar", unfollowed := true, recurses := true, apart := false, narrowed := true }
def GapsFarUptoSaid : Prop := gapsFarUptoRow.holds Try.pinned (OpenSpec.upto gapsFarSpec)

/-- 'polliwoglaw03.SpanOf', WHERE WHAT IT READS IS OF BULK AT MOST 1048576: true; the input reads as it did. -/
def spanOfUptoRow : OpenClaim := { program := "ytihobchcmfamaaa", sum := "ffc0e9b4a3d370017eb5519ab9b279e605f0b4f43d044505ca684a3c3351c081", func := "polliwog/polliwoglaw03.SpanOf", spec := "spanOf", unfollowed := true, recurses := true, apart := false, narrowed := true }
def SpanOfUptoSaid : Prop := spanOfUptoRow.holds Try.pinned (OpenSpec.upto spanOfSpec)

/-- 'polliwoglaw09.GapsEmpty', WHERE WHAT IT READS IS OF BULK AT MOST 1048576: true; the input reads as it did. -/
def gapsEmptyUptoRow : OpenClaim := { program := "ytihobchcmfamaaa", sum := "ffc0e9b4a3d370017eb5519ab9b279e605f0b4f43d044505ca684a3c3351c081", func := "polliwog/polliwoglaw09.GapsEmpty", spec := "gapsEmpty", unfollowed := true, recurses := true, apart := false, narrowed := true }
def GapsEmptyUptoSaid : Prop := gapsEmptyUptoRow.holds Try.pinned (OpenSpec.upto gapsEmptySpec)

/-- 'polliwoglaw03.SpanApart', WHERE WHAT IT READS IS OF BULK AT MOST 1048576: true; the input reads as it did. -/
def spanApartUptoRow : OpenClaim := { program := "ytihobchcmfamaaa", sum := "ffc0e9b4a3d370017eb5519ab9b279e605f0b4f43d044505ca684a3c3351c081", func := "polliwog/polliwoglaw03.SpanApart", spec := "spanApart", unfollowed := true, recurses := true, apart := false, narrowed := true }
def SpanApartUptoSaid : Prop := spanApartUptoRow.holds Try.pinned (OpenSpec.upto spanApartSpec)

/-- 'polliwoglaw09.GapsLists', WHERE WHAT IT READS IS OF BULK AT MOST 1048576: true; the input reads as it did. -/
def gapsListsUptoRow : OpenClaim := { program := "ytihobchcmfamaaa", sum := "ffc0e9b4a3d370017eb5519ab9b279e605f0b4f43d044505ca684a3c3351c081", func := "polliwog/polliwoglaw09.GapsLists", spec := "gapsLists", unfollowed := true, recurses := true, apart := false, narrowed := true }
def GapsListsUptoSaid : Prop := gapsListsUptoRow.holds Try.pinned (OpenSpec.upto gapsListsSpec)

/-- 'polliwoglaw09.GapsSets', WHERE WHAT IT READS IS OF BULK AT MOST 1048576: true; the input reads as it did. -/
def gapsSetsUptoRow : OpenClaim := { program := "ytihobchcmfamaaa", sum := "ffc0e9b4a3d370017eb5519ab9b279e605f0b4f43d044505ca684a3c3351c081", func := "polliwog/polliwoglaw09.GapsSets", spec := "gapsSets", unfollowed := true, recurses := true, apart := false, narrowed := true }
def GapsSetsUptoSaid : Prop := gapsSetsUptoRow.holds Try.pinned (OpenSpec.upto gapsSetsSpec)

end Rows
end Go.Proofs.Ytihobchcmfamaaa
