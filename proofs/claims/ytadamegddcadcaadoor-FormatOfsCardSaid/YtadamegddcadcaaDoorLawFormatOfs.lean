/- Proved: for every era and every state the law function noonmarklaw16.FormatOfs ends without a panic and answers true (FormatOfsCardSaid). Conditions: none beyond the given statement's own; no hypothesis stands ahead of it. -/
import Derived.Test.YtadamegddcadcaaDoorClose
import Derived.Test.YtadamegddcadcaaDoorOpen
import Derived.Test.YtadamegddcadcaaDoorPureOf
set_option linter.unusedVariables false
namespace Go.Proofs.YtadamegddcadcaaDoor.formatOfs
open Go Go.Proofs Go.Proofs.YtadamegddcadcaaDoorPi Go.ChangeShapes Go.WideShapes Go.ChangeAt Go.RowKit
set_option maxRecDepth 100000
theorem own : ownKnob Tryd.prog.godebug = none := by kernel_rfl
theorem kids : Kids Tryd.prog (· < Tryd.prog.types.size) := kids_rows (by kernel_rfl) (by kernel_rfl)
theorem walk (x : f4_ps.den) (gx : goods f4_ps x) (W : World) (vs : List Value) (hv : vals (e0 W) f4_ps x vs) (hG : CG.Γ (mm W)) : Calls Tryd.prog 4 vs.toArray W fun e W' => e = .returned (.bool true) ∧ Below W.heap.size W W' := by
  refine (f4_ok.calls 1000 x (true, ()) (formatOfs_pure x) (mm W) (fun _ => none) (fun _ => none) W vs (inv0 W) hG hv).mono ?_
  rintro e W' ⟨v, m', rfl, hc, _, hr⟩
  exact ⟨by rw [vrep_bool hr], below_of hc⟩
theorem lifted (os : Os) (started : os.Started) (H : Type) (enc : TypeId × Value → H) :
    ReturnsInHanded {} Tryd.checked os 4 .any (fun w args => (Rows.formatOfsSpec.pre enc Tryd.prog Tryd.f4 Rows.formatOfsRow.domain false w args ∧ laidMetH Tryd.prog Rows.formatOfsRow.laid w) ∧ sizedMet enc Tryd.prog Tryd.f4 (OpenSpec.ofChange Rows.formatOfsSpec) false w args)
      (Rows.formatOfsSpec.post enc Tryd.prog Tryd.f4 false true false false) := by
  refine wrap_shaped (C := Tryd.checked) (X := fun w _ => laidMetH Tryd.prog Rows.formatOfsRow.laid w) own started (by kernel_rfl) Tryd.func4
    (ChangeSpec.witness_shaped (enc := enc) (C := Tryd.checked) (os := os) (X := fun w _ => laidMetH Tryd.prog Rows.formatOfsRow.laid w) false (World.laidAll Tryd.prog os Rows.formatOfsRow.laid) (zvals f4_ps).toArray 8 (World.laidAll_os _ _ _)
      (World.shaped_of_ZipB (by kernel_rfl) (by kernel_rfl)) (by kernel_rfl) (by kernel_rfl) (by kernel_rfl)
      (by rw [MakeChecks.laidMetH_plain _ _ _ (by kernel_rfl)]; exact laidMet_laidAll _ (by kernel_rfl) (by kernel_rfl))) ?_
  intro W base args ds gs before hval0 hW hsh
  have hW' := hW
  obtain ⟨p, q, hA0, hV, rfl, hfz, hnd⟩ := hW
  have hA : DataW.TrodAll enc Tryd.prog W 0 (fun _ => true) true [34, 36] args.toList ds p := by rw [Tryd.params4] at hA0; exact hA0
  obtain ⟨x, hx, gx, hl⟩ := open_all (n := 30) [34, 36] f4_ps args.toList ds p (by kernel_rfl) (fun j t v ht hv => hval0 j t v (by rw [Tryd.params4]; simpa using ht) (by simpa using hv)) hA
  obtain ⟨a, b, rfl⟩ := list2 hl
  obtain ⟨rfl, rfl⟩ := trodVars_none hV
  refine (walk x gx W args.toList hx (maxLen_cell hsh)).mono fun e W' ⟨he, bel⟩ => ?_
  subst he
  have hB := close_all kids (by kernel_rfl) bel.block (ts := [34, 36]) (by decide +kernel) hA
  exact ⟨_, rfl, [a, b], _, _, [], _, [], hW', trodAll_mk1 (shut_bool Tryd.underlying4 _), by rw [Tryd.params4]; exact hB, rfl, bel.frame _, fun h => by cases h⟩
theorem over : Rows.FormatOfsSaid :=
  OpenClaim.holds_of_wide 4 Tryd.f4 rfl rfl rfl rfl rfl rfl rfl ⟨rfl, rfl, rfl, rfl, rfl⟩ rfl rfl rfl rfl rfl (by kernel_rfl) Tryd.func4 (by kernel_rfl)
    (of_decide_eq_true (by kernel_rfl)) (by unfold Func.isWrapper; first | (rw [if_pos (by decide +kernel)]; kernel_rfl) | (rw [if_neg (by decide +kernel)]; exact ⟨rfl, rfl⟩))
    (fun os started H enc _ => lifted os started H enc)
theorem card : Rows.FormatOfsCardSaid :=
  Claim7.holds_tied_plain_at .later [] [.data, .pinned] true (true, "2cbce3209e0afbff3d820fefc5b1623da49790836ccf8fa63e2c9a171f193dd4") false over (fun _ h => by cases h) (by kernel_rfl) (fun _ h => by cases h) formatOfs_row_tie rfl ⟨rfl, rfl⟩ (by kernel_rfl) rfl
    (fun f fn hf hfn => by
      obtain rfl : f = 4 := Option.some.inj ((show Tryd.prog.funcNamed "noonmark/noonmarklaw16.FormatOfs" = some 4 by kernel_rfl).symm.trans hf) |>.symm
      obtain rfl : fn = Tryd.f4 := (Option.some.inj (Tryd.func4.symm.trans hfn)).symm
      exact ⟨by kernel_rfl, fun j t ht => by
        rw [Tryd.params4] at ht
        have hm : t ∈ [34, 36] := by simpa using Array.mem_of_getElem? ht
        have hall : ([34, 36].all fun u => !Tryd.prog.wantsStandIn u) = true := by kernel_rfl
        exact (show Tryd.prog.wantsStandIn t = false by simpa using List.all_eq_true.1 hall t hm)⟩)
    (by kernel_rfl)
end Go.Proofs.YtadamegddcadcaaDoor.formatOfs
namespace Go.Proofs.YtadamegddcadcaaDoor
theorem formatOfs_holds : Rows.FormatOfsCardSaid := formatOfs.card
#print axioms formatOfs_holds
end Go.Proofs.YtadamegddcadcaaDoor
