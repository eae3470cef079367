/-
  NARROWER THAN 'FOR EVERY INPUT', by the rows' own cells (each row's printed sentence says how): StatCounts: loops · StatAll: loops · StatParts: loops.
  DERIVED. THE GIVEN ROWS OF THIS SEAT. 6 by the template 'for every input the law returns true; each argument reads behind the call as it read before'; 0 by the template 'total and deterministic' (their statements: YtcmknnhhbcgoiaaTotals.lean).
  GIVEN WITH THE SEED: the statements are not yours to turn. If you find one false, say at which input.
  Laid BY PROGRAM, IN A SANDBOX (cutbox-rows.mjs): the forced cells as the released guide's own fill.sh prints them over the translation 507a91838267eb64… (all of the seat's roots in one cut). By AI agents, Wed Nov 11 2026. No macro, syntax, notation, axiom, sorry.
-/
import Derived.Test.YtcmknnhhbcgoiaaChecked
import GoSem.Claim
import GoSem.ClaimJoined
import GoSem.ClaimMapViews
import Derived.JoinedTies
import Derived.KernelRfl
namespace Go.Proofs.Ytcmknnhhbcgoiaa
/- THE CELL 'sum', in the pinned program and in every row, IS THE sha256 OF THE DUMP (.gsa) THAT YtcmknnhhbcgoiaaProg.lean LOADS. Nothing in Lean hashes anything: it is a label: what it is worth is what the hold of that sum in a sandbox is worth. -/
noncomputable def Try.pinned : Pinned := { name := "ytcmknnhhbcgoiaa", sum := "507a91838267eb6464915a50f0252ac4dd93c94ef6eceef2331bf41505866ff2", checked := Try.checked }
namespace Rows
def none {H : Type} : Left H := { results := [], args := [] }

/-- 'changelinglaw25.StatCounts': WHATEVER THE INPUT: true; the input reads as it did. -/
def statCountsSpec : ChangeSpec := { name := "statCounts", fn := fun _ => fun
  | [d1, d2] => { results := [.lit (.bool true)], args := [d1, d2] }
  | _ => none }
def statCountsRow : OpenClaim := { program := "ytcmknnhhbcgoiaa", sum := "507a91838267eb6464915a50f0252ac4dd93c94ef6eceef2331bf41505866ff2", func := "changeling/changelinglaw25.StatCounts", spec := "statCounts", inPlace := ["internal/abi.NoEscape"], loops := true, apart := false }
def StatCountsSaid : Prop := statCountsRow.holds Try.pinned (OpenSpec.ofChange statCountsSpec)

/-- ITS FALSE NEIGHBOUR: 'it returns false'. Refute it at one input. -/
def statCountsWrong : ChangeSpec := { name := "statCounts", fn := fun _ => fun
  | [d1, d2] => { results := [.lit (.bool false)], args := [d1, d2] }
  | _ => none }
def StatCountsWrongFalsely : Prop := statCountsRow.holds Try.pinned (OpenSpec.ofChange statCountsWrong)

/-- 'changelinglaw25.StatTables': WHATEVER THE INPUT: true; the input reads as it did. -/
def statTablesSpec : ChangeSpec := { name := "statTables", fn := fun _ => fun
  | [d1, d2, d3] => { results := [.lit (.bool true)], args := [d1, d2, d3] }
  | _ => none }
def statTablesRow : OpenClaim := { program := "ytcmknnhhbcgoiaa", sum := "507a91838267eb6464915a50f0252ac4dd93c94ef6eceef2331bf41505866ff2", func := "changeling/changelinglaw25.StatTables", spec := "statTables", inPlace := ["internal/abi.NoEscape"], recurses := true, apart := false }
def StatTablesSaid : Prop := statTablesRow.holds Try.pinned (OpenSpec.ofChange statTablesSpec)

/-- ITS FALSE NEIGHBOUR: 'it returns false'. Refute it at one input. -/
def statTablesWrong : ChangeSpec := { name := "statTables", fn := fun _ => fun
  | [d1, d2, d3] => { results := [.lit (.bool false)], args := [d1, d2, d3] }
  | _ => none }
def StatTablesWrongFalsely : Prop := statTablesRow.holds Try.pinned (OpenSpec.ofChange statTablesWrong)

/-- 'changelinglaw25.StatAll': WHATEVER THE INPUT: true; the input reads as it did. -/
def statAllSpec : ChangeSpec := { name := "statAll", fn := fun _ => fun
  | [d1, d2] => { results := [.lit (.bool true)], args := [d1, d2] }
  | _ => none }
def statAllRow : OpenClaim := { program := "ytcmknnhhbcgoiaa", sum := "507a91838267eb6464915a50f0252ac4dd93c94ef6eceef2331bf41505866ff2", func := "changeling/changelinglaw25.StatAll", spec := "statAll", inPlace := ["internal/abi.NoEscape"], loops := true, apart := false }
def StatAllSaid : Prop := statAllRow.holds Try.pinned (OpenSpec.ofChange statAllSpec)

/-- ITS FALSE NEIGHBOUR: 'it returns false'. Refute it at one input. -/
def statAllWrong : ChangeSpec := { name := "statAll", fn := fun _ => fun
  | [d1, d2] => { results := [.lit (.bool false)], args := [d1, d2] }
  | _ => none }
def StatAllWrongFalsely : Prop := statAllRow.holds Try.pinned (OpenSpec.ofChange statAllWrong)

/-- 'changelinglaw25.StatMerges': WHATEVER THE INPUT: true; the input reads as it did. -/
def statMergesSpec : ChangeSpec := { name := "statMerges", fn := fun _ => fun
  | [d1, d2] => { results := [.lit (.bool true)], args := [d1, d2] }
  | _ => none }
def statMergesRow : OpenClaim := { program := "ytcmknnhhbcgoiaa", sum := "507a91838267eb6464915a50f0252ac4dd93c94ef6eceef2331bf41505866ff2", func := "changeling/changelinglaw25.StatMerges", spec := "statMerges", inPlace := ["internal/abi.NoEscape"], apart := false }
def StatMergesSaid : Prop := statMergesRow.holds Try.pinned (OpenSpec.ofChange statMergesSpec)

/-- ITS FALSE NEIGHBOUR: 'it returns false'. Refute it at one input. -/
def statMergesWrong : ChangeSpec := { name := "statMerges", fn := fun _ => fun
  | [d1, d2] => { results := [.lit (.bool false)], args := [d1, d2] }
  | _ => none }
def StatMergesWrongFalsely : Prop := statMergesRow.holds Try.pinned (OpenSpec.ofChange statMergesWrong)

/-- 'changelinglaw25.StatOrders': WHATEVER THE INPUT: true; the input reads as it did. -/
def statOrdersSpec : ChangeSpec := { name := "statOrders", fn := fun _ => fun
  | [d1, d2, d3] => { results := [.lit (.bool true)], args := [d1, d2, d3] }
  | _ => none }
def statOrdersRow : OpenClaim := { program := "ytcmknnhhbcgoiaa", sum := "507a91838267eb6464915a50f0252ac4dd93c94ef6eceef2331bf41505866ff2", func := "changeling/changelinglaw25.StatOrders", spec := "statOrders", inPlace := ["internal/abi.NoEscape"], apart := false }
def StatOrdersSaid : Prop := statOrdersRow.holds Try.pinned (OpenSpec.ofChange statOrdersSpec)

/-- ITS FALSE NEIGHBOUR: 'it returns false'. Refute it at one input. -/
def statOrdersWrong : ChangeSpec := { name := "statOrders", fn := fun _ => fun
  | [d1, d2, d3] => { results := [.lit (.bool false)], args := [d1, d2, d3] }
  | _ => none }
def StatOrdersWrongFalsely : Prop := statOrdersRow.holds Try.pinned (OpenSpec.ofChange statOrdersWrong)

/-- 'changelinglaw25.StatParts': WHATEVER THE INPUT: true; the input reads as it did. -/
def statPartsSpec : ChangeSpec := { name := "statParts", fn := fun _ => fun
  | [d1, d2, d3] => { results := [.lit (.bool true)], args := [d1, d2, d3] }
  | _ => none }
def statPartsRow : OpenClaim := { program := "ytcmknnhhbcgoiaa", sum := "507a91838267eb6464915a50f0252ac4dd93c94ef6eceef2331bf41505866ff2", func := "changeling/changelinglaw25.StatParts", spec := "statParts", inPlace := ["internal/abi.NoEscape"], loops := true, apart := false }
def StatPartsSaid : Prop := statPartsRow.holds Try.pinned (OpenSpec.ofChange statPartsSpec)

/-- ITS FALSE NEIGHBOUR: 'it returns false'. Refute it at one input. -/
def statPartsWrong : ChangeSpec := { name := "statParts", fn := fun _ => fun
  | [d1, d2, d3] => { results := [.lit (.bool false)], args := [d1, d2, d3] }
  | _ => none }
def StatPartsWrongFalsely : Prop := statPartsRow.holds Try.pinned (OpenSpec.ofChange statPartsWrong)

/- THE SECOND FORM. 'bulk': how many values and letters a reading holds, each counted each time it is reached (what is shared counts as often as it is met; a slice's spare places count too). A statement '..UptoSaid' is the law's where the arguments, and the package variables that the reading takes, are together of bulk at most 1048576: NARROWER than '..Said'. Prove '..Said' where nothing that the law and all that it calls make is longer than what came in: it says more and counts as full. Else prove '..UptoSaid'. A law counts once. -/
mutual
def uptoBulk {H : Type} : DataW H → Nat
  | .lit (.string bytes) => bytes.length + 1
  | .lit _ => 1
  | .nil => 1
  | .ptr d => uptoBulk d + 1
  | .slice elems spare => uptoBulkAll elems + uptoBulkAll spare + 1
  | .agg parts => uptoBulkAll parts + 1
  | .iface _ d => uptoBulk d + 1
  | .map entries => uptoBulkEntries entries + 1
  | .held _ => 1
def uptoBulkAll {H : Type} : List (DataW H) → Nat
  | [] => 0
  | d :: r => uptoBulk d + uptoBulkAll r
def uptoBulkEntries {H : Type} : List (Lit × DataW H) → Nat
  | [] => 0
  | x :: r => uptoBulkEntry x + uptoBulkEntries r
def uptoBulkEntry {H : Type} : Lit × DataW H → Nat
  | (.string bytes, d) => bytes.length + uptoBulk d + 1
  | (_, d) => uptoBulk d + 1
 end
def uptoSmall : (H : Type) → List (DataW H) → Bool := fun _ ds => decide (uptoBulkAll ds ≤ 1048576)
def OpenSpec.upto (s : _root_.Go.ChangeSpec) : _root_.Go.OpenSpec := { _root_.Go.OpenSpec.ofChange s with cond := some uptoSmall }

/-- 'changelinglaw25.StatCounts', WHERE WHAT IT READS IS OF BULK AT MOST 1048576: true; the input reads as it did. -/
def statCountsUptoRow : OpenClaim := { program := "ytcmknnhhbcgoiaa", sum := "507a91838267eb6464915a50f0252ac4dd93c94ef6eceef2331bf41505866ff2", func := "changeling/changelinglaw25.StatCounts", spec := "statCounts", inPlace := ["internal/abi.NoEscape"], loops := true, apart := false, narrowed := true }
def StatCountsUptoSaid : Prop := statCountsUptoRow.holds Try.pinned (OpenSpec.upto statCountsSpec)

/-- 'changelinglaw25.StatTables', WHERE WHAT IT READS IS OF BULK AT MOST 1048576: true; the input reads as it did. -/
def statTablesUptoRow : OpenClaim := { program := "ytcmknnhhbcgoiaa", sum := "507a91838267eb6464915a50f0252ac4dd93c94ef6eceef2331bf41505866ff2", func := "changeling/changelinglaw25.StatTables", spec := "statTables", inPlace := ["internal/abi.NoEscape"], recurses := true, apart := false, narrowed := true }
def StatTablesUptoSaid : Prop := statTablesUptoRow.holds Try.pinned (OpenSpec.upto statTablesSpec)

/-- 'changelinglaw25.StatAll', WHERE WHAT IT READS IS OF BULK AT MOST 1048576: true; the input reads as it did. -/
def statAllUptoRow : OpenClaim := { program := "ytcmknnhhbcgoiaa", sum := "507a91838267eb6464915a50f0252ac4dd93c94ef6eceef2331bf41505866ff2", func := "changeling/changelinglaw25.StatAll", spec := "statAll", inPlace := ["internal/abi.NoEscape"], loops := true, apart := false, narrowed := true }
def StatAllUptoSaid : Prop := statAllUptoRow.holds Try.pinned (OpenSpec.upto statAllSpec)

/-- 'changelinglaw25.StatMerges', WHERE WHAT IT READS IS OF BULK AT MOST 1048576: true; the input reads as it did. -/
def statMergesUptoRow : OpenClaim := { program := "ytcmknnhhbcgoiaa", sum := "507a91838267eb6464915a50f0252ac4dd93c94ef6eceef2331bf41505866ff2", func := "changeling/changelinglaw25.StatMerges", spec := "statMerges", inPlace := ["internal/abi.NoEscape"], apart := false, narrowed := true }
def StatMergesUptoSaid : Prop := statMergesUptoRow.holds Try.pinned (OpenSpec.upto statMergesSpec)

/-- 'changelinglaw25.StatOrders', WHERE WHAT IT READS IS OF BULK AT MOST 1048576: true; the input reads as it did. -/
def statOrdersUptoRow : OpenClaim := { program := "ytcmknnhhbcgoiaa", sum := "507a91838267eb6464915a50f0252ac4dd93c94ef6eceef2331bf41505866ff2", func := "changeling/changelinglaw25.StatOrders", spec := "statOrders", inPlace := ["internal/abi.NoEscape"], apart := false, narrowed := true }
def StatOrdersUptoSaid : Prop := statOrdersUptoRow.holds Try.pinned (OpenSpec.upto statOrdersSpec)

/-- 'changelinglaw25.StatParts', WHERE WHAT IT READS IS OF BULK AT MOST 1048576: true; the input reads as it did. -/
def statPartsUptoRow : OpenClaim := { program := "ytcmknnhhbcgoiaa", sum := "507a91838267eb6464915a50f0252ac4dd93c94ef6eceef2331bf41505866ff2", func := "changeling/changelinglaw25.StatParts", spec := "statParts", inPlace := ["internal/abi.NoEscape"], loops := true, apart := false, narrowed := true }
def StatPartsUptoSaid : Prop := statPartsUptoRow.holds Try.pinned (OpenSpec.upto statPartsSpec)

end Rows
end Go.Proofs.Ytcmknnhhbcgoiaa
