/-
  No cell of these rows narrows 'for every input' (looked for: loops, veiled, ifaces, maps, wideKeys, modest, calm, conditions, laid).
  DERIVED. THE GIVEN ROWS OF THIS SEAT. 11 by the template 'for every input the law returns true; each argument reads behind the call as it read before'; 0 by the template 'total and deterministic' (their statements: YtaloeaihnkkfeaaTotals.lean).
  GIVEN WITH THE SEED: the statements are not yours to turn. If you find one false, say at which input.
  Laid BY PROGRAM, IN A SANDBOX (cutbox-rows.mjs): the forced cells as the released guide's own fill.sh prints them over the translation c744269cb97533c7… (all of the seat's roots in one cut). By AI agents, Wed Nov 11 2026. No macro, syntax, notation, axiom, sorry.
-/
import Derived.Test.YtaloeaihnkkfeaaChecked
import GoSem.Claim
import GoSem.ClaimJoined
import GoSem.ClaimMapViews
import Derived.JoinedTies
import Derived.KernelRfl
namespace Go.Proofs.Ytaloeaihnkkfeaa
/- THE CELL 'sum', in the pinned program and in every row, IS THE sha256 OF THE DUMP (.gsa) THAT YtaloeaihnkkfeaaProg.lean LOADS. Nothing in Lean hashes anything: it is a label: what it is worth is what the hold of that sum in a sandbox is worth. -/
noncomputable def Try.pinned : Pinned := { name := "ytaloeaihnkkfeaa", sum := "c744269cb97533c7d449d61694855568d051884580c9303c1bf19a39ae243e49", checked := Try.checked }
namespace Rows
def none {H : Type} : Left H := { results := [], args := [] }

/-- 'blindstamplaw01.LabelBounds': WHATEVER THE INPUT: true; the input reads as it did. -/
def labelBoundsSpec : ChangeSpec := { name := "labelBounds", fn := fun _ => fun
  | [d1, d2, d3] => { results := [.lit (.bool true)], args := [d1, d2, d3] }
  | _ => none }
def labelBoundsRow : OpenClaim := { program := "ytaloeaihnkkfeaa", sum := "c744269cb97533c7d449d61694855568d051884580c9303c1bf19a39ae243e49", func := "blindstamp/blindstamplaw01.LabelBounds", spec := "labelBounds", unfollowed := true, recurses := true, apart := false }
def LabelBoundsSaid : Prop := labelBoundsRow.holds Try.pinned (OpenSpec.ofChange labelBoundsSpec)

/-- ITS FALSE NEIGHBOUR: 'it returns false'. Refute it at one input. -/
def labelBoundsWrong : ChangeSpec := { name := "labelBounds", fn := fun _ => fun
  | [d1, d2, d3] => { results := [.lit (.bool false)], args := [d1, d2, d3] }
  | _ => none }
def LabelBoundsWrongFalsely : Prop := labelBoundsRow.holds Try.pinned (OpenSpec.ofChange labelBoundsWrong)

/-- 'blindstamplaw01.LabelOrder': WHATEVER THE INPUT: true; the input reads as it did. -/
def labelOrderSpec : ChangeSpec := { name := "labelOrder", fn := fun _ => fun
  | [d1, d2, d3] => { results := [.lit (.bool true)], args := [d1, d2, d3] }
  | _ => none }
def labelOrderRow : OpenClaim := { program := "ytaloeaihnkkfeaa", sum := "c744269cb97533c7d449d61694855568d051884580c9303c1bf19a39ae243e49", func := "blindstamp/blindstamplaw01.LabelOrder", spec := "labelOrder", unfollowed := true, recurses := true, apart := false }
def LabelOrderSaid : Prop := labelOrderRow.holds Try.pinned (OpenSpec.ofChange labelOrderSpec)

/-- ITS FALSE NEIGHBOUR: 'it returns false'. Refute it at one input. -/
def labelOrderWrong : ChangeSpec := { name := "labelOrder", fn := fun _ => fun
  | [d1, d2, d3] => { results := [.lit (.bool false)], args := [d1, d2, d3] }
  | _ => none }
def LabelOrderWrongFalsely : Prop := labelOrderRow.holds Try.pinned (OpenSpec.ofChange labelOrderWrong)

/-- 'blindstamplaw01.LabelNames': WHATEVER THE INPUT: true; the input reads as it did. -/
def labelNamesSpec : ChangeSpec := { name := "labelNames", fn := fun _ => fun
  | [] => { results := [.lit (.bool true)], args := [] }
  | _ => none }
def labelNamesRow : OpenClaim := { program := "ytaloeaihnkkfeaa", sum := "c744269cb97533c7d449d61694855568d051884580c9303c1bf19a39ae243e49", func := "blindstamp/blindstamplaw01.LabelNames", spec := "labelNames", unfollowed := true, recurses := true, apart := false }
def LabelNamesSaid : Prop := labelNamesRow.holds Try.pinned (OpenSpec.ofChange labelNamesSpec)

/-- ITS FALSE NEIGHBOUR: 'it returns false'. Refute it at one input. -/
def labelNamesWrong : ChangeSpec := { name := "labelNames", fn := fun _ => fun
  | [] => { results := [.lit (.bool false)], args := [] }
  | _ => none }
def LabelNamesWrongFalsely : Prop := labelNamesRow.holds Try.pinned (OpenSpec.ofChange labelNamesWrong)

/-- 'blindstamplaw01.LabelAhead': WHATEVER THE INPUT: true; the input reads as it did. -/
def labelAheadSpec : ChangeSpec := { name := "labelAhead", fn := fun _ => fun
  | [d1, d2, d3] => { results := [.lit (.bool true)], args := [d1, d2, d3] }
  | _ => none }
def labelAheadRow : OpenClaim := { program := "ytaloeaihnkkfeaa", sum := "c744269cb97533c7d449d61694855568d051884580c9303c1bf19a39ae243e49", func := "blindstamp/blindstamplaw01.LabelAhead", spec := "labelAhead", unfollowed := true, recurses := true, apart := false }
def LabelAheadSaid : Prop := labelAheadRow.holds Try.pinned (OpenSpec.ofChange labelAheadSpec)

/-- ITS FALSE NEIGHBOUR: 'it returns false'. Refute it at one input. -/
def labelAheadWrong : ChangeSpec := { name := "labelAhead", fn := fun _ => fun
  | [d1, d2, d3] => { results := [.lit (.bool false)], args := [d1, d2, d3] }
  | _ => none }
def LabelAheadWrongFalsely : Prop := labelAheadRow.holds Try.pinned (OpenSpec.ofChange labelAheadWrong)

/-- 'blindstamplaw01.LabelTells': WHATEVER THE INPUT: true; the input reads as it did. -/
def labelTellsSpec : ChangeSpec := { name := "labelTells", fn := fun _ => fun
  | [d1, d2] => { results := [.lit (.bool true)], args := [d1, d2] }
  | _ => none }
def labelTellsRow : OpenClaim := { program := "ytaloeaihnkkfeaa", sum := "c744269cb97533c7d449d61694855568d051884580c9303c1bf19a39ae243e49", func := "blindstamp/blindstamplaw01.LabelTells", spec := "labelTells", unfollowed := true, recurses := true, apart := false }
def LabelTellsSaid : Prop := labelTellsRow.holds Try.pinned (OpenSpec.ofChange labelTellsSpec)

/-- ITS FALSE NEIGHBOUR: 'it returns false'. Refute it at one input. -/
def labelTellsWrong : ChangeSpec := { name := "labelTells", fn := fun _ => fun
  | [d1, d2] => { results := [.lit (.bool false)], args := [d1, d2] }
  | _ => none }
def LabelTellsWrongFalsely : Prop := labelTellsRow.holds Try.pinned (OpenSpec.ofChange labelTellsWrong)

/-- 'blindstamplaw05.IdsOrder': WHATEVER THE INPUT: true; the input reads as it did. -/
def idsOrderSpec : ChangeSpec := { name := "idsOrder", fn := fun _ => fun
  | [d1, d2, d3] => { results := [.lit (.bool true)], args := [d1, d2, d3] }
  | _ => none }
def idsOrderRow : OpenClaim := { program := "ytaloeaihnkkfeaa", sum := "c744269cb97533c7d449d61694855568d051884580c9303c1bf19a39ae243e49", func := "blindstamp/blindstamplaw05.IdsOrder", spec := "idsOrder", apart := false }
def IdsOrderSaid : Prop := idsOrderRow.holds Try.pinned (OpenSpec.ofChange idsOrderSpec)

/-- ITS FALSE NEIGHBOUR: 'it returns false'. Refute it at one input. -/
def idsOrderWrong : ChangeSpec := { name := "idsOrder", fn := fun _ => fun
  | [d1, d2, d3] => { results := [.lit (.bool false)], args := [d1, d2, d3] }
  | _ => none }
def IdsOrderWrongFalsely : Prop := idsOrderRow.holds Try.pinned (OpenSpec.ofChange idsOrderWrong)

/-- 'blindstamplaw05.IdsTell': WHATEVER THE INPUT: true; the input reads as it did. -/
def idsTellSpec : ChangeSpec := { name := "idsTell", fn := fun _ => fun
  | [d1, d2, d3, d4] => { results := [.lit (.bool true)], args := [d1, d2, d3, d4] }
  | _ => none }
def idsTellRow : OpenClaim := { program := "ytaloeaihnkkfeaa", sum := "c744269cb97533c7d449d61694855568d051884580c9303c1bf19a39ae243e49", func := "blindstamp/blindstamplaw05.IdsTell", spec := "idsTell", apart := false }
def IdsTellSaid : Prop := idsTellRow.holds Try.pinned (OpenSpec.ofChange idsTellSpec)

/-- ITS FALSE NEIGHBOUR: 'it returns false'. Refute it at one input. -/
def idsTellWrong : ChangeSpec := { name := "idsTell", fn := fun _ => fun
  | [d1, d2, d3, d4] => { results := [.lit (.bool false)], args := [d1, d2, d3, d4] }
  | _ => none }
def IdsTellWrongFalsely : Prop := idsTellRow.holds Try.pinned (OpenSpec.ofChange idsTellWrong)

/-- 'blindstamplaw05.IdsWrite': WHATEVER THE INPUT: true; the input reads as it did. -/
def idsWriteSpec : ChangeSpec := { name := "idsWrite", fn := fun _ => fun
  | [d1, d2] => { results := [.lit (.bool true)], args := [d1, d2] }
  | _ => none }
def idsWriteRow : OpenClaim := { program := "ytaloeaihnkkfeaa", sum := "c744269cb97533c7d449d61694855568d051884580c9303c1bf19a39ae243e49", func := "blindstamp/blindstamplaw05.IdsWrite", spec := "idsWrite", apart := false }
def IdsWriteSaid : Prop := idsWriteRow.holds Try.pinned (OpenSpec.ofChange idsWriteSpec)

/-- ITS FALSE NEIGHBOUR: 'it returns false'. Refute it at one input. -/
def idsWriteWrong : ChangeSpec := { name := "idsWrite", fn := fun _ => fun
  | [d1, d2] => { results := [.lit (.bool false)], args := [d1, d2] }
  | _ => none }
def IdsWriteWrongFalsely : Prop := idsWriteRow.holds Try.pinned (OpenSpec.ofChange idsWriteWrong)

/-- 'blindstamplaw05.IdsBack': WHATEVER THE INPUT: true; the input reads as it did. -/
def idsBackSpec : ChangeSpec := { name := "idsBack", fn := fun _ => fun
  | [d1, d2] => { results := [.lit (.bool true)], args := [d1, d2] }
  | _ => none }
def idsBackRow : OpenClaim := { program := "ytaloeaihnkkfeaa", sum := "c744269cb97533c7d449d61694855568d051884580c9303c1bf19a39ae243e49", func := "blindstamp/blindstamplaw05.IdsBack", spec := "idsBack", apart := false }
def IdsBackSaid : Prop := idsBackRow.holds Try.pinned (OpenSpec.ofChange idsBackSpec)

/-- ITS FALSE NEIGHBOUR: 'it returns false'. Refute it at one input. -/
def idsBackWrong : ChangeSpec := { name := "idsBack", fn := fun _ => fun
  | [d1, d2] => { results := [.lit (.bool false)], args := [d1, d2] }
  | _ => none }
def IdsBackWrongFalsely : Prop := idsBackRow.holds Try.pinned (OpenSpec.ofChange idsBackWrong)

/-- 'blindstamplaw05.IdsCut': WHATEVER THE INPUT: true; the input reads as it did. -/
def idsCutSpec : ChangeSpec := { name := "idsCut", fn := fun _ => fun
  | [d1, d2, d3, d4] => { results := [.lit (.bool true)], args := [d1, d2, d3, d4] }
  | _ => none }
def idsCutRow : OpenClaim := { program := "ytaloeaihnkkfeaa", sum := "c744269cb97533c7d449d61694855568d051884580c9303c1bf19a39ae243e49", func := "blindstamp/blindstamplaw05.IdsCut", spec := "idsCut", apart := false }
def IdsCutSaid : Prop := idsCutRow.holds Try.pinned (OpenSpec.ofChange idsCutSpec)

/-- ITS FALSE NEIGHBOUR: 'it returns false'. Refute it at one input. -/
def idsCutWrong : ChangeSpec := { name := "idsCut", fn := fun _ => fun
  | [d1, d2, d3, d4] => { results := [.lit (.bool false)], args := [d1, d2, d3, d4] }
  | _ => none }
def IdsCutWrongFalsely : Prop := idsCutRow.holds Try.pinned (OpenSpec.ofChange idsCutWrong)

/-- 'blindstamplaw05.IdsNames': WHATEVER THE INPUT: true; the input reads as it did. -/
def idsNamesSpec : ChangeSpec := { name := "idsNames", fn := fun _ => fun
  | [] => { results := [.lit (.bool true)], args := [] }
  | _ => none }
def idsNamesRow : OpenClaim := { program := "ytaloeaihnkkfeaa", sum := "c744269cb97533c7d449d61694855568d051884580c9303c1bf19a39ae243e49", func := "blindstamp/blindstamplaw05.IdsNames", spec := "idsNames", apart := false }
def IdsNamesSaid : Prop := idsNamesRow.holds Try.pinned (OpenSpec.ofChange idsNamesSpec)

/-- ITS FALSE NEIGHBOUR: 'it returns false'. Refute it at one input. -/
def idsNamesWrong : ChangeSpec := { name := "idsNames", fn := fun _ => fun
  | [] => { results := [.lit (.bool false)], args := [] }
  | _ => none }
def IdsNamesWrongFalsely : Prop := idsNamesRow.holds Try.pinned (OpenSpec.ofChange idsNamesWrong)

/- THE SECOND FORM. 'bulk': how many values and letters a reading holds, each counted each time it is reached (what is shared counts as often as it is met; a slice's spare places count too). A statement '..UptoSaid' is the law's where the arguments, and the package variables that the reading takes, are together of bulk at most 1048576: NARROWER than '..Said'. Prove '..Said' where nothing that the law and all that it calls make is longer than what came in: it says more and counts as full. Else prove '..UptoSaid'. A law counts once. -/
mutual
def uptoBulk {H : Type} : DataW H → Nat
  | .lit (.string bytes) => bytes.length + 1
  | .lit _ => 1
  | .nil => 1
  | .ptr d => uptoBulk d + 1
  | .slice elems spare => uptoBulkAll elems + uptoBulkAll spare + 1
  | .agg parts => uptoBulkAll parts + 1
  | .iface _ d => uptoBulk d + 1
  | .map entries => uptoBulkEntries entries + 1
  | .held _ => 1
def uptoBulkAll {H : Type} : List (DataW H) → Nat
  | [] => 0
  | d :: r => uptoBulk d + uptoBulkAll r
def uptoBulkEntries {H : Type} : List (Lit × DataW H) → Nat
  | [] => 0
  | x :: r => uptoBulkEntry x + uptoBulkEntries r
def uptoBulkEntry {H : Type} : Lit × DataW H → Nat
  | (.string bytes, d) => bytes.length + uptoBulk d + 1
  | (_, d) => uptoBulk d + 1
 end
def uptoSmall : (H : Type) → List (DataW H) → Bool := fun _ ds => decide (uptoBulkAll ds ≤ 1048576)
def OpenSpec.upto (s : _root_.Go.ChangeSpec) : _root_.Go.OpenSpec := { _root_.Go.OpenSpec.ofChange s with cond := some uptoSmall }

/-- 'blindstamplaw01.LabelBounds', WHERE WHAT IT READS IS OF BULK AT MOST 1048576: true; the input reads as it did. -/
def labelBoundsUptoRow : OpenClaim := { program := "ytaloeaihnkkfeaa", sum := "c744269cb97533c7d449d61694855568d051884580c9303c1bf19a39ae243e49", func := "blindstamp/blindstamplaw01.LabelBounds", spec := "labelBounds", unfollowed := true, recurses := true, apart := false, narrowed := true }
def LabelBoundsUptoSaid : Prop := labelBoundsUptoRow.holds Try.pinned (OpenSpec.upto labelBoundsSpec)

/-- 'blindstamplaw01.LabelOrder', WHERE WHAT IT READS IS OF BULK AT MOST 1048576: true; the input reads as it did. -/
def labelOrderUptoRow : OpenClaim := { program := "ytaloeaihnkkfeaa", sum := "c744269cb97533c7d449d61694855568d051884580c9303c1bf19a39ae243e49", func := "blindstamp/blindstamplaw01.LabelOrder", spec := "labelOrder", unfollowed := true, recurses := true, apart := false, narrowed := true }
def LabelOrderUptoSaid : Prop := labelOrderUptoRow.holds Try.pinned (OpenSpec.upto labelOrderSpec)

/-- 'blindstamplaw01.LabelNames', WHERE WHAT IT READS IS OF BULK AT MOST 1048576: true; the input reads as it did. -/
def labelNamesUptoRow : OpenClaim := { program := "ytaloeaihnkkfeaa", sum := "c744269cb97533c7d449d61694855568d051884580c9303c1bf19a39ae243e49", func := "blindstamp/blindstamplaw01.LabelNames", spec := "labelNames", unfollowed := true, recurses := true, apart := false, narrowed := true }
def LabelNamesUptoSaid : Prop := labelNamesUptoRow.holds Try.pinned (OpenSpec.upto labelNamesSpec)

/-- 'blindstamplaw01.LabelAhead', WHERE WHAT IT READS IS OF BULK AT MOST 1048576: true; the input reads as it did. -/
def labelAheadUptoRow : OpenClaim := { program := "ytaloeaihnkkfeaa", sum := "c744269cb97533c7d449d61694855568d051884580c9303c1bf19a39ae243e49", func := "blindstamp/blindstamplaw01.LabelAhead", spec := "labelAhead", unfollowed := true, recurses := true, apart := false, narrowed := true }
def LabelAheadUptoSaid : Prop := labelAheadUptoRow.holds Try.pinned (OpenSpec.upto labelAheadSpec)

/-- 'blindstamplaw01.LabelTells', WHERE WHAT IT READS IS OF BULK AT MOST 1048576: true; the input reads as it did. -/
def labelTellsUptoRow : OpenClaim := { program := "ytaloeaihnkkfeaa", sum := "c744269cb97533c7d449d61694855568d051884580c9303c1bf19a39ae243e49", func := "blindstamp/blindstamplaw01.LabelTells", spec := "labelTells", unfollowed := true, recurses := true, apart := false, narrowed := true }
def LabelTellsUptoSaid : Prop := labelTellsUptoRow.holds Try.pinned (OpenSpec.upto labelTellsSpec)

/-- 'blindstamplaw05.IdsOrder', WHERE WHAT IT READS IS OF BULK AT MOST 1048576: true; the input reads as it did. -/
def idsOrderUptoRow : OpenClaim := { program := "ytaloeaihnkkfeaa", sum := "c744269cb97533c7d449d61694855568d051884580c9303c1bf19a39ae243e49", func := "blindstamp/blindstamplaw05.IdsOrder", spec := "idsOrder", apart := false, narrowed := true }
def IdsOrderUptoSaid : Prop := idsOrderUptoRow.holds Try.pinned (OpenSpec.upto idsOrderSpec)

/-- 'blindstamplaw05.IdsTell', WHERE WHAT IT READS IS OF BULK AT MOST 1048576: true; the input reads as it did. -/
def idsTellUptoRow : OpenClaim := { program := "ytaloeaihnkkfeaa", sum := "c744269cb97533c7d449d61694855568d051884580c9303c1bf19a39ae243e49", func := "blindstamp/blindstamplaw05.IdsTell", spec := "idsTell", apart := false, narrowed := true }
def IdsTellUptoSaid : Prop := idsTellUptoRow.holds Try.pinned (OpenSpec.upto idsTellSpec)

/-- 'blindstamplaw05.IdsWrite', WHERE WHAT IT READS IS OF BULK AT MOST 1048576: true; the input reads as it did. -/
def idsWriteUptoRow : OpenClaim := { program := "ytaloeaihnkkfeaa", sum := "c744269cb97533c7d449d61694855568d051884580c9303c1bf19a39ae243e49", func := "blindstamp/blindstamplaw05.IdsWrite", spec := "idsWrite", apart := false, narrowed := true }
def IdsWriteUptoSaid : Prop := idsWriteUptoRow.holds Try.pinned (OpenSpec.upto idsWriteSpec)

/-- 'blindstamplaw05.IdsBack', WHERE WHAT IT READS IS OF BULK AT MOST 1048576: true; the input reads as it did. -/
def idsBackUptoRow : OpenClaim := { program := "ytaloeaihnkkfeaa", sum := "c744269cb97533c7d449d61694855568d051884580c9303c1bf19a39ae243e49", func := "blindstamp/blindstamplaw05.IdsBack", spec := "idsBack", apart := false, narrowed := true }
def IdsBackUptoSaid : Prop := idsBackUptoRow.holds Try.pinned (OpenSpec.upto idsBackSpec)

/-- 'blindstamplaw05.IdsCut', WHERE WHAT IT READS IS OF BULK AT MOST 1048576: true; the input reads as it did. -/
def idsCutUptoRow : OpenClaim := { program := "ytaloeaihnkkfeaa", sum := "c744269cb97533c7d449d61694855568d051884580c9303c1bf19a39ae243e49", func := "blindstamp/blindstamplaw05.IdsCut", spec := "idsCut", apart := false, narrowed := true }
def IdsCutUptoSaid : Prop := idsCutUptoRow.holds Try.pinned (OpenSpec.upto idsCutSpec)

/-- 'blindstamplaw05.IdsNames', WHERE WHAT IT READS IS OF BULK AT MOST 1048576: true; the input reads as it did. -/
def idsNamesUptoRow : OpenClaim := { program := "ytaloeaihnkkfeaa", sum := "c744269cb97533c7d449d61694855568d051884580c9303c1bf19a39ae243e49", func := "blindstamp/blindstamplaw05.IdsNames", spec := "idsNames", apart := false, narrowed := true }
def IdsNamesUptoSaid : Prop := idsNamesUptoRow.holds Try.pinned (OpenSpec.upto idsNamesSpec)

end Rows
end Go.Proofs.Ytaloeaihnkkfeaa
