/-
  No cell of these rows narrows 'for every input' (looked for: loops, veiled, ifaces, maps, wideKeys, modest, calm, conditions, laid).
  DERIVED. THE GIVEN ROWS OF THIS SEAT. 6 by the template 'for every input the law returns true; each argument reads behind the call as it read before'; 0 by the template 'total and deterministic' (their statements: YtmiepbnjocojhaaTotals.lean).
  GIVEN WITH THE SEED: the statements are not yours to turn. If you find one false, say at which input.
  Laid BY PROGRAM, IN A SANDBOX (cutbox-rows.mjs): the forced cells as the released guide's own fill.sh prints them over the translation 5a11f4d9f6c83501… (all of the seat's roots in one cut). By AI agents, Wed Nov 11 2026. No macro, syntax, notation, axiom, sorry.
-/
import Derived.Test.YtmiepbnjocojhaaChecked
import GoSem.Claim
import GoSem.ClaimJoined
import GoSem.ClaimMapViews
import Derived.JoinedTies
import Derived.KernelRfl
namespace Go.Proofs.Ytmiepbnjocojhaa
/- THE CELL 'sum', in the pinned program and in every row, IS THE sha256 OF THE DUMP (.gsa) THAT YtmiepbnjocojhaaProg.lean LOADS. Nothing in Lean hashes anything: it is a label: what it is worth is what the hold of that sum in a sandbox is worth. -/
noncomputable def Try.pinned : Pinned := { name := "ytmiepbnjocojhaa", sum := "5a11f4d9f6c835010e3ac01dc0a7f711f7f772727fe5425f2783c1b583239fe6", checked := Try.checked }
namespace Rows
def none {H : Type} : Left H := { results := [], args := [] }

/-- 'changelinglaw05.FixResolves': WHATEVER THE INPUT: true; the input reads as it did. -/
def fixResolvesSpec : ChangeSpec := { name := "fixResolves", fn := fun _ => fun
  | [d] => { results := [.lit (.bool true)], args := [d] }
  | _ => none }
def fixResolvesRow : OpenClaim := { program := "ytmiepbnjocojhaa", sum := "5a11f4d9f6c835010e3ac01dc0a7f711f7f772727fe5425f2783c1b583239fe6", func := "changeling/changelinglaw05.FixResolves", spec := "fixResolves", recurses := true, apart := false }
def FixResolvesSaid : Prop := fixResolvesRow.holds Try.pinned (OpenSpec.ofChange fixResolvesSpec)

/-- ITS FALSE NEIGHBOUR: 'it returns false'. Refute it at one input. -/
def fixResolvesWrong : ChangeSpec := { name := "fixResolves", fn := fun _ => fun
  | [d] => { results := [.lit (.bool false)], args := [d] }
  | _ => none }
def FixResolvesWrongFalsely : Prop := fixResolvesRow.holds Try.pinned (OpenSpec.ofChange fixResolvesWrong)

/-- 'changelinglaw05.FixShape': WHATEVER THE INPUT: true; the input reads as it did. -/
def fixShapeSpec : ChangeSpec := { name := "fixShape", fn := fun _ => fun
  | [d] => { results := [.lit (.bool true)], args := [d] }
  | _ => none }
def fixShapeRow : OpenClaim := { program := "ytmiepbnjocojhaa", sum := "5a11f4d9f6c835010e3ac01dc0a7f711f7f772727fe5425f2783c1b583239fe6", func := "changeling/changelinglaw05.FixShape", spec := "fixShape", apart := false }
def FixShapeSaid : Prop := fixShapeRow.holds Try.pinned (OpenSpec.ofChange fixShapeSpec)

/-- ITS FALSE NEIGHBOUR: 'it returns false'. Refute it at one input. -/
def fixShapeWrong : ChangeSpec := { name := "fixShape", fn := fun _ => fun
  | [d] => { results := [.lit (.bool false)], args := [d] }
  | _ => none }
def FixShapeWrongFalsely : Prop := fixShapeRow.holds Try.pinned (OpenSpec.ofChange fixShapeWrong)

/-- 'changelinglaw05.FixTight': WHATEVER THE INPUT: true; the input reads as it did. -/
def fixTightSpec : ChangeSpec := { name := "fixTight", fn := fun _ => fun
  | [d] => { results := [.lit (.bool true)], args := [d] }
  | _ => none }
def fixTightRow : OpenClaim := { program := "ytmiepbnjocojhaa", sum := "5a11f4d9f6c835010e3ac01dc0a7f711f7f772727fe5425f2783c1b583239fe6", func := "changeling/changelinglaw05.FixTight", spec := "fixTight", apart := false }
def FixTightSaid : Prop := fixTightRow.holds Try.pinned (OpenSpec.ofChange fixTightSpec)

/-- ITS FALSE NEIGHBOUR: 'it returns false'. Refute it at one input. -/
def fixTightWrong : ChangeSpec := { name := "fixTight", fn := fun _ => fun
  | [d] => { results := [.lit (.bool false)], args := [d] }
  | _ => none }
def FixTightWrongFalsely : Prop := fixTightRow.holds Try.pinned (OpenSpec.ofChange fixTightWrong)

/-- 'changelinglaw05.FixSides': WHATEVER THE INPUT: true; the input reads as it did. -/
def fixSidesSpec : ChangeSpec := { name := "fixSides", fn := fun _ => fun
  | [d1, d2, d3] => { results := [.lit (.bool true)], args := [d1, d2, d3] }
  | _ => none }
def fixSidesRow : OpenClaim := { program := "ytmiepbnjocojhaa", sum := "5a11f4d9f6c835010e3ac01dc0a7f711f7f772727fe5425f2783c1b583239fe6", func := "changeling/changelinglaw05.FixSides", spec := "fixSides", apart := false }
def FixSidesSaid : Prop := fixSidesRow.holds Try.pinned (OpenSpec.ofChange fixSidesSpec)

/-- ITS FALSE NEIGHBOUR: 'it returns false'. Refute it at one input. -/
def fixSidesWrong : ChangeSpec := { name := "fixSides", fn := fun _ => fun
  | [d1, d2, d3] => { results := [.lit (.bool false)], args := [d1, d2, d3] }
  | _ => none }
def FixSidesWrongFalsely : Prop := fixSidesRow.holds Try.pinned (OpenSpec.ofChange fixSidesWrong)

/-- 'changelinglaw05.FixParts': WHATEVER THE INPUT: true; the input reads as it did. -/
def fixPartsSpec : ChangeSpec := { name := "fixParts", fn := fun _ => fun
  | [d1, d2, d3] => { results := [.lit (.bool true)], args := [d1, d2, d3] }
  | _ => none }
def fixPartsRow : OpenClaim := { program := "ytmiepbnjocojhaa", sum := "5a11f4d9f6c835010e3ac01dc0a7f711f7f772727fe5425f2783c1b583239fe6", func := "changeling/changelinglaw05.FixParts", spec := "fixParts", apart := false }
def FixPartsSaid : Prop := fixPartsRow.holds Try.pinned (OpenSpec.ofChange fixPartsSpec)

/-- ITS FALSE NEIGHBOUR: 'it returns false'. Refute it at one input. -/
def fixPartsWrong : ChangeSpec := { name := "fixParts", fn := fun _ => fun
  | [d1, d2, d3] => { results := [.lit (.bool false)], args := [d1, d2, d3] }
  | _ => none }
def FixPartsWrongFalsely : Prop := fixPartsRow.holds Try.pinned (OpenSpec.ofChange fixPartsWrong)

/-- 'changelinglaw05.FixFinds': WHATEVER THE INPUT: true; the input reads as it did. -/
def fixFindsSpec : ChangeSpec := { name := "fixFinds", fn := fun _ => fun
  | [d1, d2] => { results := [.lit (.bool true)], args := [d1, d2] }
  | _ => none }
def fixFindsRow : OpenClaim := { program := "ytmiepbnjocojhaa", sum := "5a11f4d9f6c835010e3ac01dc0a7f711f7f772727fe5425f2783c1b583239fe6", func := "changeling/changelinglaw05.FixFinds", spec := "fixFinds", apart := false }
def FixFindsSaid : Prop := fixFindsRow.holds Try.pinned (OpenSpec.ofChange fixFindsSpec)

/-- ITS FALSE NEIGHBOUR: 'it returns false'. Refute it at one input. -/
def fixFindsWrong : ChangeSpec := { name := "fixFinds", fn := fun _ => fun
  | [d1, d2] => { results := [.lit (.bool false)], args := [d1, d2] }
  | _ => none }
def FixFindsWrongFalsely : Prop := fixFindsRow.holds Try.pinned (OpenSpec.ofChange fixFindsWrong)

/- THE SECOND FORM. 'bulk': how many values and letters a reading holds, each counted each time it is reached (what is shared counts as often as it is met; a slice's spare places count too). A statement '..UptoSaid' is the law's where the arguments, and the package variables that the reading takes, are together of bulk at most 1048576: NARROWER than '..Said'. Prove '..Said' where nothing that the law and all that it calls make is longer than what came in: it says more and counts as full. Else prove '..UptoSaid'. A law counts once. -/
mutual
def uptoBulk {H : Type} : DataW H → Nat
  | .lit (.string bytes) => bytes.length + 1
  | .lit _ => 1
  | .nil => 1
  | .ptr d => uptoBulk d + 1
  | .slice elems spare => uptoBulkAll elems + uptoBulkAll spare + 1
  | .agg parts => uptoBulkAll parts + 1
  | .iface _ d => uptoBulk d + 1
  | .map entries => uptoBulkEntries entries + 1
  | .held _ => 1
def uptoBulkAll {H : Type} : List (DataW H) → Nat
  | [] => 0
  | d :: r => uptoBulk d + uptoBulkAll r
def uptoBulkEntries {H : Type} : List (Lit × DataW H) → Nat
  | [] => 0
  | x :: r => uptoBulkEntry x + uptoBulkEntries r
def uptoBulkEntry {H : Type} : Lit × DataW H → Nat
  | (.string bytes, d) => bytes.length + uptoBulk d + 1
  | (_, d) => uptoBulk d + 1
 end
def uptoSmall : (H : Type) → List (DataW H) → Bool := fun _ ds => decide (uptoBulkAll ds ≤ 1048576)
def OpenSpec.upto (s : _root_.Go.ChangeSpec) : _root_.Go.OpenSpec := { _root_.Go.OpenSpec.ofChange s with cond := some uptoSmall }

/-- 'changelinglaw05.FixResolves', WHERE WHAT IT READS IS OF BULK AT MOST 1048576: true; the input reads as it did. -/
def fixResolvesUptoRow : OpenClaim := { program := "ytmiepbnjocojhaa", sum := "5a11f4d9f6c835010e3ac01dc0a7f711f7f772727fe5425f2783c1b583239fe6", func := "changeling/changelinglaw05.FixResolves", spec := "fixResolves", recurses := true, apart := false, narrowed := true }
def FixResolvesUptoSaid : Prop := fixResolvesUptoRow.holds Try.pinned (OpenSpec.upto fixResolvesSpec)

/-- 'changelinglaw05.FixShape', WHERE WHAT IT READS IS OF BULK AT MOST 1048576: true; the input reads as it did. -/
def fixShapeUptoRow : OpenClaim := { program := "ytmiepbnjocojhaa", sum := "5a11f4d9f6c835010e3ac01dc0a7f711f7f772727fe5425f2783c1b583239fe6", func := "changeling/changelinglaw05.FixShape", spec := "fixShape", apart := false, narrowed := true }
def FixShapeUptoSaid : Prop := fixShapeUptoRow.holds Try.pinned (OpenSpec.upto fixShapeSpec)

/-- 'changelinglaw05.FixTight', WHERE WHAT IT READS IS OF BULK AT MOST 1048576: true; the input reads as it did. -/
def fixTightUptoRow : OpenClaim := { program := "ytmiepbnjocojhaa", sum := "5a11f4d9f6c835010e3ac01dc0a7f711f7f772727fe5425f2783c1b583239fe6", func := "changeling/changelinglaw05.FixTight", spec := "fixTight", apart := false, narrowed := true }
def FixTightUptoSaid : Prop := fixTightUptoRow.holds Try.pinned (OpenSpec.upto fixTightSpec)

/-- 'changelinglaw05.FixSides', WHERE WHAT IT READS IS OF BULK AT MOST 1048576: true; the input reads as it did. -/
def fixSidesUptoRow : OpenClaim := { program := "ytmiepbnjocojhaa", sum := "5a11f4d9f6c835010e3ac01dc0a7f711f7f772727fe5425f2783c1b583239fe6", func := "changeling/changelinglaw05.FixSides", spec := "fixSides", apart := false, narrowed := true }
def FixSidesUptoSaid : Prop := fixSidesUptoRow.holds Try.pinned (OpenSpec.upto fixSidesSpec)

/-- 'changelinglaw05.FixParts', WHERE WHAT IT READS IS OF BULK AT MOST 1048576: true; the input reads as it did. -/
def fixPartsUptoRow : OpenClaim := { program := "ytmiepbnjocojhaa", sum := "5a11f4d9f6c835010e3ac01dc0a7f711f7f772727fe5425f2783c1b583239fe6", func := "changeling/changelinglaw05.FixParts", spec := "fixParts", apart := false, narrowed := true }
def FixPartsUptoSaid : Prop := fixPartsUptoRow.holds Try.pinned (OpenSpec.upto fixPartsSpec)

/-- 'changelinglaw05.FixFinds', WHERE WHAT IT READS IS OF BULK AT MOST 1048576: true; the input reads as it did. -/
def fixFindsUptoRow : OpenClaim := { program := "ytmiepbnjocojhaa", sum := "5a11f4d9f6c835010e3ac01dc0a7f711f7f772727fe5425f2783c1b583239fe6", func := "changeling/changelinglaw05.FixFinds", spec := "fixFinds", apart := false, narrowed := true }
def FixFindsUptoSaid : Prop := fixFindsUptoRow.holds Try.pinned (OpenSpec.upto fixFindsSpec)

end Rows
end Go.Proofs.Ytmiepbnjocojhaa
