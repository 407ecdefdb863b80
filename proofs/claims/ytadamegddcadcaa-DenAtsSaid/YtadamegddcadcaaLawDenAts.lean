/- Proved: for every zone and every instant the law function noonmarklaw15.DenAts ends without a panic and answers true (DenAtsSaid). Conditions: none beyond the given statement's own; no hypothesis stands ahead of it. -/
import Derived.Test.YtadamegddcadcaaPiB
import Derived.WalkKit
import Derived.ProofKit
import Derived.Test.YtadamegddcadcaaAt
import Derived.Test.YtadamegddcadcaaRows
import Derived.Test.YtadamegddcadcaaChecked
import Derived.OpenShut
import Derived.ShutString
import Derived.ChangeOld
import Derived.Below
import Derived.SizedLaws
set_option linter.unusedVariables false
namespace Go.Proofs.YtadamegddcadcaaPi
open Go Go.RowKit
theorem inv0 (W : World) : Inv (mm W) W := fun _ _ _ h => h
theorem below_of {C : Ctx} {m m' : Mem} {w w' : World} (c : Chg C m w m' w') : Below w.heap.size w w' := ⟨c.os, c.tape, c.output, c.size, fun b hb => c.heap b hb id⟩
theorem soundF {P : Program} {C : Ctx} {f : FuncId} {s : Sp} (h : SoundX P C f (.f s)) : Sound P C f s := h
end Go.Proofs.YtadamegddcadcaaPi

namespace Go.Proofs.Ytadamegddcadcaa.denAts
open Go Go.Proofs Go.Proofs.YtadamegddcadcaaPi Go.ChangeShapes Go.WideShapes Go.ChangeAt Go.RowKit
set_option maxRecDepth 100000
theorem own : ownKnob Try.prog.godebug = none := by kernel_rfl
theorem kids : Kids Try.prog (· < Try.prog.types.size) := kids_rows (by kernel_rfl) (by kernel_rfl)
theorem walk (x : noonmarklaw15_DenAts_ps.den) (W : World) (vs : List Value) (gx : goods noonmarklaw15_DenAts_ps x) (hv : vals (e0 W) noonmarklaw15_DenAts_ps x vs) : Calls Try.prog 3 vs.toArray W fun e W' => e = .returned (.bool true) ∧ Below W.heap.size W W' := by
  refine ((soundF noonmarklaw15_DenAts_ok).calls 1000000 x (true, ()) (denAts_good x gx) (mm W) (fun _ => none) (fun _ => none) W vs (inv0 W) trivial hv).mono ?_
  rintro e W' ⟨v, m', rfl, hc, _, hr⟩
  exact ⟨by rw [vrep_bool hr], below_of hc⟩
theorem lifted (os : Os) (started : os.Started) (H : Type) (enc : TypeId × Value → H) :
    ReturnsInHanded {} Try.checked os 3 .any (Rows.denAtsSpec.pre6 enc Try.prog Try.f3 Rows.denAtsRow.domain false) (Rows.denAtsSpec.post enc Try.prog Try.f3 false true false false) := by
  refine returnsInHanded_of_change_sized (C := Try.checked) own started (by kernel_rfl) Try.func3
    (ChangeSpec.witness6 (enc := enc) (C := Try.checked) false ⟨#[], (zvals noonmarklaw15_DenAts_ps).toArray, []⟩ 8 (by kernel_rfl) (by kernel_rfl) (by kernel_rfl) (by kernel_rfl)) ?_
  intro W base args ds gs before hval0 hW hcnd hsz0 _
  have hW' := hW
  obtain ⟨p, q, hA0, hV, rfl, hfz, hnd⟩ := hW
  have hA : DataW.TrodAll enc Try.prog W 0 (fun _ => true) true [25, 2] args.toList ds p := by rw [Try.params3] at hA0; exact hA0
  obtain ⟨x, hx, gx, hl⟩ := open_all (n := 30) [25, 2] noonmarklaw15_DenAts_ps args.toList ds p (by kernel_rfl) (fun j t v ht hv => hval0 j t v (by rw [Try.params3]; simpa using ht) (by simpa using hv)) hA
  obtain ⟨a, b, rfl⟩ := list2 hl
  obtain ⟨rfl, rfl⟩ := trodVars_none hV
  refine (walk x W args.toList gx hx).mono fun e W' ⟨he, bel⟩ => ?_
  subst he
  have hB := close_all kids (by kernel_rfl) bel.block (ts := [25, 2]) (by decide +kernel) hA
  exact ⟨_, rfl, [a, b], _, _, [], _, [], hW', trodAll_mk1 (shut_bool Try.underlying4 _), by rw [Try.params3]; exact hB, rfl, bel.frame _, fun h => by cases h⟩
theorem over : Rows.denAtsRow.holds Try.pinned (OpenSpec.ofChange Rows.denAtsSpec) :=
  OpenClaim.holds_of_wide 3 Try.f3 rfl rfl rfl rfl rfl rfl rfl ⟨rfl, rfl, rfl, rfl, rfl⟩ rfl rfl rfl rfl rfl (by kernel_rfl) Try.func3 (by kernel_rfl)
    (of_decide_eq_true (by kernel_rfl)) (by unfold Func.isWrapper; first | (rw [if_pos (by decide +kernel)]; kernel_rfl) | (rw [if_neg (by decide +kernel)]; exact ⟨rfl, rfl⟩))
    (fun os started H enc _ => lifted os started H enc)
end Go.Proofs.Ytadamegddcadcaa.denAts
namespace Go.Proofs.Ytadamegddcadcaa
theorem denAts_holds : Rows.DenAtsSaid := denAts.over
#print axioms denAts_holds
end Go.Proofs.Ytadamegddcadcaa
