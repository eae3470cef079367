/-
  No cell of these rows narrows 'for every input' (looked for: loops, veiled, ifaces, maps, wideKeys, modest, calm, conditions, laid).
  DERIVED. THE GIVEN ROWS OF THIS SEAT. 5 by the template 'for every input the law returns true; each argument reads behind the call as it read before'; 0 by the template 'total and deterministic' (their statements: YtkohkcnajddcoaaTotals.lean).
  GIVEN WITH THE SEED: the statements are not yours to turn. If you find one false, say at which input.
  Laid BY PROGRAM, IN A SANDBOX (cutbox-rows.mjs): the forced cells as the released guide's own fill.sh prints them over the translation 5556ad493de36c06… (all of the seat's roots in one cut). By AI agents, Wed Nov 11 2026. No macro, syntax, notation, axiom, sorry.
-/
import Derived.Test.YtkohkcnajddcoaaChecked
import GoSem.Claim
import GoSem.ClaimJoined
import GoSem.ClaimMapViews
import Derived.JoinedTies
import Derived.KernelRfl
namespace Go.Proofs.Ytkohkcnajddcoaa
/- THE CELL 'sum', in the pinned program and in every row, IS THE sha256 OF THE DUMP (.gsa) THAT YtkohkcnajddcoaaProg.lean LOADS. Nothing in Lean hashes anything: it is a label: what it is worth is what the hold of that sum in a sandbox is worth. -/
noncomputable def Try.pinned : Pinned := { name := "ytkohkcnajddcoaa", sum := "5556ad493de36c0639864e89e0a1051aa800d5eb9a0440985fe7694baee24237", checked := Try.checked }
namespace Rows
def none {H : Type} : Left H := { results := [], args := [] }

/-- 'changelinglaw03.SpoolShut': WHATEVER THE INPUT: true; the input reads as it did. -/
def spoolShutSpec : ChangeSpec := { name := "spoolShut", fn := fun _ => fun
  | [d1, d2] => { results := [.lit (.bool true)], args := [d1, d2] }
  | _ => none }
def spoolShutRow : OpenClaim := { program := "ytkohkcnajddcoaa", sum := "5556ad493de36c0639864e89e0a1051aa800d5eb9a0440985fe7694baee24237", func := "changeling/changelinglaw03.SpoolShut", spec := "spoolShut", apart := false }
def SpoolShutSaid : Prop := spoolShutRow.holds Try.pinned (OpenSpec.ofChange spoolShutSpec)

/-- ITS FALSE NEIGHBOUR: 'it returns false'. Refute it at one input. -/
def spoolShutWrong : ChangeSpec := { name := "spoolShut", fn := fun _ => fun
  | [d1, d2] => { results := [.lit (.bool false)], args := [d1, d2] }
  | _ => none }
def SpoolShutWrongFalsely : Prop := spoolShutRow.holds Try.pinned (OpenSpec.ofChange spoolShutWrong)

/-- 'changelinglaw03.SpoolOrder': WHATEVER THE INPUT: true; the input reads as it did. -/
def spoolOrderSpec : ChangeSpec := { name := "spoolOrder", fn := fun _ => fun
  | [d1, d2] => { results := [.lit (.bool true)], args := [d1, d2] }
  | _ => none }
def spoolOrderRow : OpenClaim := { program := "ytkohkcnajddcoaa", sum := "5556ad493de36c0639864e89e0a1051aa800d5eb9a0440985fe7694baee24237", func := "changeling/changelinglaw03.SpoolOrder", spec := "spoolOrder", apart := false }
def SpoolOrderSaid : Prop := spoolOrderRow.holds Try.pinned (OpenSpec.ofChange spoolOrderSpec)

/-- ITS FALSE NEIGHBOUR: 'it returns false'. Refute it at one input. -/
def spoolOrderWrong : ChangeSpec := { name := "spoolOrder", fn := fun _ => fun
  | [d1, d2] => { results := [.lit (.bool false)], args := [d1, d2] }
  | _ => none }
def SpoolOrderWrongFalsely : Prop := spoolOrderRow.holds Try.pinned (OpenSpec.ofChange spoolOrderWrong)

/-- 'changelinglaw03.SpoolPlays': WHATEVER THE INPUT: true; the input reads as it did. -/
def spoolPlaysSpec : ChangeSpec := { name := "spoolPlays", fn := fun _ => fun
  | [d1, d2, d3] => { results := [.lit (.bool true)], args := [d1, d2, d3] }
  | _ => none }
def spoolPlaysRow : OpenClaim := { program := "ytkohkcnajddcoaa", sum := "5556ad493de36c0639864e89e0a1051aa800d5eb9a0440985fe7694baee24237", func := "changeling/changelinglaw03.SpoolPlays", spec := "spoolPlays", apart := false }
def SpoolPlaysSaid : Prop := spoolPlaysRow.holds Try.pinned (OpenSpec.ofChange spoolPlaysSpec)

/-- ITS FALSE NEIGHBOUR: 'it returns false'. Refute it at one input. -/
def spoolPlaysWrong : ChangeSpec := { name := "spoolPlays", fn := fun _ => fun
  | [d1, d2, d3] => { results := [.lit (.bool false)], args := [d1, d2, d3] }
  | _ => none }
def SpoolPlaysWrongFalsely : Prop := spoolPlaysRow.holds Try.pinned (OpenSpec.ofChange spoolPlaysWrong)

/-- 'changelinglaw03.SpoolKeeps': WHATEVER THE INPUT: true; the input reads as it did. -/
def spoolKeepsSpec : ChangeSpec := { name := "spoolKeeps", fn := fun _ => fun
  | [d1, d2, d3, d4] => { results := [.lit (.bool true)], args := [d1, d2, d3, d4] }
  | _ => none }
def spoolKeepsRow : OpenClaim := { program := "ytkohkcnajddcoaa", sum := "5556ad493de36c0639864e89e0a1051aa800d5eb9a0440985fe7694baee24237", func := "changeling/changelinglaw03.SpoolKeeps", spec := "spoolKeeps", apart := false }
def SpoolKeepsSaid : Prop := spoolKeepsRow.holds Try.pinned (OpenSpec.ofChange spoolKeepsSpec)

/-- ITS FALSE NEIGHBOUR: 'it returns false'. Refute it at one input. -/
def spoolKeepsWrong : ChangeSpec := { name := "spoolKeeps", fn := fun _ => fun
  | [d1, d2, d3, d4] => { results := [.lit (.bool false)], args := [d1, d2, d3, d4] }
  | _ => none }
def SpoolKeepsWrongFalsely : Prop := spoolKeepsRow.holds Try.pinned (OpenSpec.ofChange spoolKeepsWrong)

/-- 'changelinglaw03.SpoolNil': WHATEVER THE INPUT: true; the input reads as it did. -/
def spoolNilSpec : ChangeSpec := { name := "spoolNil", fn := fun _ => fun
  | [d1, d2] => { results := [.lit (.bool true)], args := [d1, d2] }
  | _ => none }
def spoolNilRow : OpenClaim := { program := "ytkohkcnajddcoaa", sum := "5556ad493de36c0639864e89e0a1051aa800d5eb9a0440985fe7694baee24237", func := "changeling/changelinglaw03.SpoolNil", spec := "spoolNil", apart := false }
def SpoolNilSaid : Prop := spoolNilRow.holds Try.pinned (OpenSpec.ofChange spoolNilSpec)

/-- ITS FALSE NEIGHBOUR: 'it returns false'. Refute it at one input. -/
def spoolNilWrong : ChangeSpec := { name := "spoolNil", fn := fun _ => fun
  | [d1, d2] => { results := [.lit (.bool false)], args := [d1, d2] }
  | _ => none }
def SpoolNilWrongFalsely : Prop := spoolNilRow.holds Try.pinned (OpenSpec.ofChange spoolNilWrong)

/- THE SECOND FORM. 'bulk': how many values and letters a reading holds, each counted each time it is reached (what is shared counts as often as it is met; a slice's spare places count too). A statement '..UptoSaid' is the law's where the arguments, and the package variables that the reading takes, are together of bulk at most 1048576: NARROWER than '..Said'. Prove '..Said' where nothing that the law and all that it calls make is longer than what came in: it says more and counts as full. Else prove '..UptoSaid'. A law counts once. -/
mutual
def uptoBulk {H : Type} : DataW H → Nat
  | .lit (.string bytes) => bytes.length + 1
  | .lit _ => 1
  | .nil => 1
  | .ptr d => uptoBulk d + 1
  | .slice elems spare => uptoBulkAll elems + uptoBulkAll spare + 1
  | .agg parts => uptoBulkAll parts + 1
  | .iface _ d => uptoBulk d + 1
  | .map entries => uptoBulkEntries entries + 1
  | .held _ => 1
def uptoBulkAll {H : Type} : List (DataW H) → Nat
  | [] => 0
  | d :: r => uptoBulk d + uptoBulkAll r
def uptoBulkEntries {H : Type} : List (Lit × DataW H) → Nat
  | [] => 0
  | x :: r => uptoBulkEntry x + uptoBulkEntries r
def uptoBulkEntry {H : Type} : Lit × DataW H → Nat
  | (.string bytes, d) => bytes.length + uptoBulk d + 1
  | (_, d) => uptoBulk d + 1
 end
def uptoSmall : (H : Type) → List (DataW H) → Bool := fun _ ds => decide (uptoBulkAll ds ≤ 1048576)
def OpenSpec.upto (s : _root_.Go.ChangeSpec) : _root_.Go.OpenSpec := { _root_.Go.OpenSpec.ofChange s with cond := some uptoSmall }

/-- 'changelinglaw03.SpoolShut', WHERE WHAT IT READS IS OF BULK AT MOST 1048576: true; the input reads as it did. -/
def spoolShutUptoRow : OpenClaim := { program := "ytkohkcnajddcoaa", sum := "5556ad493de36c0639864e89e0a1051aa800d5eb9a0440985fe7694baee24237", func := "changeling/changelinglaw03.SpoolShut", spec := "spoolShut", apart := false, narrowed := true }
def SpoolShutUptoSaid : Prop := spoolShutUptoRow.holds Try.pinned (OpenSpec.upto spoolShutSpec)

/-- 'changelinglaw03.SpoolOrder', WHERE WHAT IT READS IS OF BULK AT MOST 1048576: true; the input reads as it did. -/
def spoolOrderUptoRow : OpenClaim := { program := "ytkohkcnajddcoaa", sum := "5556ad493de36c0639864e89e0a1051aa800d5eb9a0440985fe7694baee24237", func := "changeling/changelinglaw03.SpoolOrder", spec := "spoolOrder", apart := false, narrowed := true }
def SpoolOrderUptoSaid : Prop := spoolOrderUptoRow.holds Try.pinned (OpenSpec.upto spoolOrderSpec)

/-- 'changelinglaw03.SpoolPlays', WHERE WHAT IT READS IS OF BULK AT MOST 1048576: true; the input reads as it did. -/
def spoolPlaysUptoRow : OpenClaim := { program := "ytkohkcnajddcoaa", sum := "5556ad493de36c0639864e89e0a1051aa800d5eb9a0440985fe7694baee24237", func := "changeling/changelinglaw03.SpoolPlays", spec := "spoolPlays", apart := false, narrowed := true }
def SpoolPlaysUptoSaid : Prop := spoolPlaysUptoRow.holds Try.pinned (OpenSpec.upto spoolPlaysSpec)

/-- 'changelinglaw03.SpoolKeeps', WHERE WHAT IT READS IS OF BULK AT MOST 1048576: true; the input reads as it did. -/
def spoolKeepsUptoRow : OpenClaim := { program := "ytkohkcnajddcoaa", sum := "5556ad493de36c0639864e89e0a1051aa800d5eb9a0440985fe7694baee24237", func := "changeling/changelinglaw03.SpoolKeeps", spec := "spoolKeeps", apart := false, narrowed := true }
def SpoolKeepsUptoSaid : Prop := spoolKeepsUptoRow.holds Try.pinned (OpenSpec.upto spoolKeepsSpec)

/-- 'changelinglaw03.SpoolNil', WHERE WHAT IT READS IS OF BULK AT MOST 1048576: true; the input reads as it did. -/
def spoolNilUptoRow : OpenClaim := { program := "ytkohkcnajddcoaa", sum := "5556ad493de36c0639864e89e0a1051aa800d5eb9a0440985fe7694baee24237", func := "changeling/changelinglaw03.SpoolNil", spec := "spoolNil", apart := false, narrowed := true }
def SpoolNilUptoSaid : Prop := spoolNilUptoRow.holds Try.pinned (OpenSpec.upto spoolNilSpec)

end Rows
end Go.Proofs.Ytkohkcnajddcoaa
