/-
  No cell of these rows narrows 'for every input' (looked for: loops, veiled, ifaces, maps, wideKeys, modest, calm, conditions, laid).
  DERIVED. THE GIVEN ROWS OF THIS SEAT. 3 by the template 'for every input the law returns true; each argument reads behind the call as it read before'; 0 by the template 'total and deterministic' (their statements: YtadamegddcadcaaTotals.lean).
  GIVEN WITH THE SEED: the statements are not yours to turn. If you find one false, say at which input.
  Laid BY PROGRAM, IN A SANDBOX (cutbox-rows.mjs): the forced cells as the released guide's own fill.sh prints them over the translation 43976e7cc8e91200… (all of the seat's roots in one cut). By AI agents, Wed Nov 11 2026. No macro, syntax, notation, axiom, sorry.
-/
import Derived.Test.YtadamegddcadcaaChecked
import GoSem.Claim
import GoSem.ClaimJoined
import GoSem.ClaimMapViews
import Derived.JoinedTies
import Derived.KernelRfl
namespace Go.Proofs.Ytadamegddcadcaa
/- THE CELL 'sum', in the pinned program and in every row, IS THE sha256 OF THE DUMP (.gsa) THAT YtadamegddcadcaaProg.lean LOADS. Nothing in Lean hashes anything: it is a label: what it is worth is what the hold of that sum in a sandbox is worth. -/
noncomputable def Try.pinned : Pinned := { name := "ytadamegddcadcaa", sum := "43976e7cc8e91200bbc61fd71db68f3880ae31175b723111c436b93f362a4fa5", checked := Try.checked }
namespace Rows
def none {H : Type} : Left H := { results := [], args := [] }

/-- 'noonmarklaw15.DenAts': WHATEVER THE INPUT: true; the input reads as it did. -/
def denAtsSpec : ChangeSpec := { name := "denAts", fn := fun _ => fun
  | [d1, d2] => { results := [.lit (.bool true)], args := [d1, d2] }
  | _ => none }
def denAtsRow : OpenClaim := { program := "ytadamegddcadcaa", sum := "43976e7cc8e91200bbc61fd71db68f3880ae31175b723111c436b93f362a4fa5", func := "noonmark/noonmarklaw15.DenAts", spec := "denAts", unfollowed := true, recurses := true, apart := false }
def DenAtsSaid : Prop := denAtsRow.holds Try.pinned (OpenSpec.ofChange denAtsSpec)

/-- ITS FALSE NEIGHBOUR: 'it returns false'. Refute it at one input. -/
def denAtsWrong : ChangeSpec := { name := "denAts", fn := fun _ => fun
  | [d1, d2] => { results := [.lit (.bool false)], args := [d1, d2] }
  | _ => none }
def DenAtsWrongFalsely : Prop := denAtsRow.holds Try.pinned (OpenSpec.ofChange denAtsWrong)

/-- 'noonmarklaw15.DenEras': WHATEVER THE INPUT: true; the input reads as it did. -/
def denErasSpec : ChangeSpec := { name := "denEras", fn := fun _ => fun
  | [d1, d2, d3] => { results := [.lit (.bool true)], args := [d1, d2, d3] }
  | _ => none }
def denErasRow : OpenClaim := { program := "ytadamegddcadcaa", sum := "43976e7cc8e91200bbc61fd71db68f3880ae31175b723111c436b93f362a4fa5", func := "noonmark/noonmarklaw15.DenEras", spec := "denEras", unfollowed := true, recurses := true, apart := false }
def DenErasSaid : Prop := denErasRow.holds Try.pinned (OpenSpec.ofChange denErasSpec)

/-- ITS FALSE NEIGHBOUR: 'it returns false'. Refute it at one input. -/
def denErasWrong : ChangeSpec := { name := "denEras", fn := fun _ => fun
  | [d1, d2, d3] => { results := [.lit (.bool false)], args := [d1, d2, d3] }
  | _ => none }
def DenErasWrongFalsely : Prop := denErasRow.holds Try.pinned (OpenSpec.ofChange denErasWrong)

/-- 'noonmarklaw15.DenPlain': WHATEVER THE INPUT: true; the input reads as it did. -/
def denPlainSpec : ChangeSpec := { name := "denPlain", fn := fun _ => fun
  | [d1, d2, d3, d4] => { results := [.lit (.bool true)], args := [d1, d2, d3, d4] }
  | _ => none }
def denPlainRow : OpenClaim := { program := "ytadamegddcadcaa", sum := "43976e7cc8e91200bbc61fd71db68f3880ae31175b723111c436b93f362a4fa5", func := "noonmark/noonmarklaw15.DenPlain", spec := "denPlain", unfollowed := true, recurses := true, apart := false }
def DenPlainSaid : Prop := denPlainRow.holds Try.pinned (OpenSpec.ofChange denPlainSpec)

/-- ITS FALSE NEIGHBOUR: 'it returns false'. Refute it at one input. -/
def denPlainWrong : ChangeSpec := { name := "denPlain", fn := fun _ => fun
  | [d1, d2, d3, d4] => { results := [.lit (.bool false)], args := [d1, d2, d3, d4] }
  | _ => none }
def DenPlainWrongFalsely : Prop := denPlainRow.holds Try.pinned (OpenSpec.ofChange denPlainWrong)

/- THE SECOND FORM. 'bulk': how many values and letters a reading holds, each counted each time it is reached (what is shared counts as often as it is met; a slice's spare places count too). A statement '..UptoSaid' is the law's where the arguments, and the package variables that the reading takes, are together of bulk at most 1048576: NARROWER than '..Said'. Prove '..Said' where nothing that the law and all that it calls make is longer than what came in: it says more and counts as full. Else prove '..UptoSaid'. A law counts once. -/
mutual
def uptoBulk {H : Type} : DataW H → Nat
  | .lit (.string bytes) => bytes.length + 1
  | .lit _ => 1
  | .nil => 1
  | .ptr d => uptoBulk d + 1
  | .slice elems spare => uptoBulkAll elems + uptoBulkAll spare + 1
  | .agg parts => uptoBulkAll parts + 1
  | .iface _ d => uptoBulk d + 1
  | .map entries => uptoBulkEntries entries + 1
  | .held _ => 1
def uptoBulkAll {H : Type} : List (DataW H) → Nat
  | [] => 0
  | d :: r => uptoBulk d + uptoBulkAll r
def uptoBulkEntries {H : Type} : List (Lit × DataW H) → Nat
  | [] => 0
  | x :: r => uptoBulkEntry x + uptoBulkEntries r
def uptoBulkEntry {H : Type} : Lit × DataW H → Nat
  | (.string bytes, d) => bytes.length + uptoBulk d + 1
  | (_, d) => uptoBulk d + 1
 end
def uptoSmall : (H : Type) → List (DataW H) → Bool := fun _ ds => decide (uptoBulkAll ds ≤ 1048576)
def OpenSpec.upto (s : _root_.Go.ChangeSpec) : _root_.Go.OpenSpec := { _root_.Go.OpenSpec.ofChange s with cond := some uptoSmall }

/-- 'noonmarklaw15.DenAts', WHERE WHAT IT READS IS OF BULK AT MOST 1048576: true; the input reads as it did. -/
def denAtsUptoRow : OpenClaim := { program := "ytadamegddcadcaa", sum := "43976e7cc8e91200bbc61fd71db68f3880ae31175b723111c436b93f362a4fa5", func := "noonmark/noonmarklaw15.DenAts", spec := "denAts", unfollowed := true, recurses := true, apart := false, narrowed := true }
def DenAtsUptoSaid : Prop := denAtsUptoRow.holds Try.pinned (OpenSpec.upto denAtsSpec)

/-- 'noonmarklaw15.DenEras', WHERE WHAT IT READS IS OF BULK AT MOST 1048576: true; the input reads as it did. -/
def denErasUptoRow : OpenClaim := { program := "ytadamegddcadcaa", sum := "43976e7cc8e91200bbc61fd71db68f3880ae31175b723111c436b93f362a4fa5", func := "noonmark/noonmarklaw15.DenEras", spec := "denEras", unfollowed := true, recurses := true, apart := false, narrowed := true }
def DenErasUptoSaid : Prop := denErasUptoRow.holds Try.pinned (OpenSpec.upto denErasSpec)

/-- 'noonmarklaw15.DenPlain', WHERE WHAT IT READS IS OF BULK AT MOST 1048576: true; the input reads as it did. -/
def denPlainUptoRow : OpenClaim := { program := "ytadamegddcadcaa", sum := "43976e7cc8e91200bbc61fd71db68f3880ae31175b723111c436b93f362a4fa5", func := "noonmark/noonmarklaw15.DenPlain", spec := "denPlain", unfollowed := true, recurses := true, apart := false, narrowed := true }
def DenPlainUptoSaid : Prop := denPlainUptoRow.holds Try.pinned (OpenSpec.upto denPlainSpec)

end Rows
end Go.Proofs.Ytadamegddcadcaa
