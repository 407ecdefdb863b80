/- Proved: for every offset the law function noonmarklaw16.FormatDigits ends without a panic and answers true (FormatDigitsCardSaid). Conditions: none beyond the given statement's own; no hypothesis stands ahead of it. -/
import Derived.Test.YtadamegddcadcaaDoorClose
set_option linter.unusedVariables false
namespace Go.Proofs.YtadamegddcadcaaDoor.formatDigits
open Go Go.Proofs Go.Proofs.YtadamegddcadcaaDoorPi Go.ChangeShapes Go.WideShapes Go.ChangeAt Go.RowKit
set_option maxRecDepth 100000
theorem own : ownKnob Tryd.prog.godebug = none := by kernel_rfl
theorem walk (x : Int) (W : World) (hG : ∃ y, W.cell? ⟨0, 0, none⟩ = some (.int .i64 y)) : Calls Tryd.prog 3 #[.int .i64 x] W fun e W' => e = .returned (.bool true) ∧ Below W.heap.size W W' := by
  refine (f3_ok.calls 60 (x, ()) (true, ()) (formatDigits_pure x) (m0 W) (fun _ => none) (fun _ => none) W [.int .i64 x] (inv0 W) hG ⟨_, _, rfl, mkInt _ _ _, rfl⟩).mono ?_
  rintro e W' ⟨v, m', rfl, hc, _, hr⟩
  exact ⟨by rw [vrep_bool hr], below_of hc⟩
theorem lifted (os : Os) (started : os.Started) (H : Type) (enc : TypeId × Value → H) :
    ReturnsInHanded {} Tryd.checked os 3 .any (fun w args => (Rows.formatDigitsSpec.pre enc Tryd.prog Tryd.f3 Rows.formatDigitsRow.domain false w args ∧ laidMetH Tryd.prog Rows.formatDigitsRow.laid w) ∧ sizedMet enc Tryd.prog Tryd.f3 (OpenSpec.ofChange Rows.formatDigitsSpec) false w args)
      (Rows.formatDigitsSpec.post enc Tryd.prog Tryd.f3 false true false false) := by
  refine wrap_shaped (C := Tryd.checked) (X := fun w _ => laidMetH Tryd.prog Rows.formatDigitsRow.laid w) own started (by kernel_rfl) Tryd.func3
    (ChangeSpec.witness_shaped (enc := enc) (C := Tryd.checked) (os := os) (X := fun w _ => laidMetH Tryd.prog Rows.formatDigitsRow.laid w) false (World.laidAll Tryd.prog os Rows.formatDigitsRow.laid) #[.int .i64 0] 8 (World.laidAll_os _ _ _)
      (World.shaped_of_ZipB (by kernel_rfl) (by kernel_rfl)) (by kernel_rfl) (by kernel_rfl) (by kernel_rfl)
      (by rw [MakeChecks.laidMetH_plain _ _ _ (by kernel_rfl)]; exact laidMet_laidAll _ (by kernel_rfl) (by kernel_rfl))) ?_
  intro W base args ds gs before hval0 hW hsh
  have hval : ∀ (j : Nat) t v, Tryd.f3.params[j]? = some t → args[j]? = some v → Value.okWide Tryd.prog W .any base t v := hval0
  have hW' := hW
  obtain ⟨p, q, hA0, hV, rfl, hfz, hnd⟩ := hW
  have hA : DataW.TrodAll enc Tryd.prog W 0 (fun _ => true) true Tryd.f3.params.toList args.toList ds p := hA0
  rw [Tryd.params3] at hA hval
  obtain ⟨v0, d0, rfl, rfl, h0⟩ := trodAll_one hA
  obtain ⟨rfl, rfl⟩ := trodVars_none hV
  obtain ⟨x, rfl, rfl, rfl, wx⟩ := open_int Tryd.underlying3 (hval 0 3 v0 rfl rfl) h0
  refine (walk x W (maxLen_cell hsh)).mono fun e W' ⟨he, bel⟩ => ?_
  subst he
  exact ⟨_, rfl, _, _, _, [], _, [], hW', trodAll_mk1 (shut_bool Tryd.underlying4 _), trodAll_mk1 (shut_int Tryd.underlying3 wx), rfl, bel.frame _, fun h => by cases h⟩
theorem over : Rows.FormatDigitsSaid :=
  OpenClaim.holds_of_wide 3 Tryd.f3 rfl rfl rfl rfl rfl rfl rfl ⟨rfl, rfl, rfl, rfl, rfl⟩ rfl rfl rfl rfl rfl (by kernel_rfl) Tryd.func3 (by kernel_rfl)
    (of_decide_eq_true (by kernel_rfl)) (by unfold Func.isWrapper; first | (rw [if_pos (by decide +kernel)]; kernel_rfl) | (rw [if_neg (by decide +kernel)]; exact ⟨rfl, rfl⟩))
    (fun os started H enc _ => lifted os started H enc)
theorem card : Rows.FormatDigitsCardSaid :=
  Claim7.holds_tied_plain_at .later [] [.data, .pinned] true (true, "2cbce3209e0afbff3d820fefc5b1623da49790836ccf8fa63e2c9a171f193dd4") false over (fun _ h => by cases h) (by kernel_rfl) (fun _ h => by cases h) formatDigits_row_tie rfl ⟨rfl, rfl⟩ (by kernel_rfl) rfl
    (fun f fn hf hfn => by
      obtain rfl : f = 3 := Option.some.inj ((show Tryd.prog.funcNamed "noonmark/noonmarklaw16.FormatDigits" = some 3 by kernel_rfl).symm.trans hf) |>.symm
      obtain rfl : fn = Tryd.f3 := (Option.some.inj (Tryd.func3.symm.trans hfn)).symm
      exact ⟨by kernel_rfl, fun j t ht => by
        rw [Tryd.params3] at ht
        have hm : t ∈ [3] := by simpa using Array.mem_of_getElem? ht
        have hall : ([3].all fun u => !Tryd.prog.wantsStandIn u) = true := by kernel_rfl
        exact (show Tryd.prog.wantsStandIn t = false by simpa using List.all_eq_true.1 hall t hm)⟩)
    (by kernel_rfl)
end Go.Proofs.YtadamegddcadcaaDoor.formatDigits
namespace Go.Proofs.YtadamegddcadcaaDoor
theorem formatDigits_holds : Rows.FormatDigitsCardSaid := formatDigits.card
#print axioms formatDigits_holds
end Go.Proofs.YtadamegddcadcaaDoor
