/- Proved: for every footer and every year the law function noonmarklaw26.PosixSums ends without a panic and answers true (PosixSumsCardSaid). Conditions: none beyond the given statement's own; no hypothesis stands ahead of it. -/
import Derived.Test.YtedenojeljjnaaaGreatDoorPiC
import Derived.WalkKit
import Derived.ProofKit
import Derived.Test.YtedenojeljjnaaaGreatDoorRows
import Derived.Test.YtedenojeljjnaaaGreatDoorCards
import Derived.Test.YtedenojeljjnaaaGreatDoorTie
import Derived.OpenShut
import Derived.ShutString
import Derived.LaidMore
import Derived.Lay
import Derived.SevenTiedAt
import Derived.Stop.Joined
import Derived.SizedLaws
import Derived.Shelf.Vars
import Derived.Test.YtedenojeljjnaaaGreatDoorPos
set_option linter.unusedVariables false
namespace Go.Proofs.YtedenojeljjnaaaGreatDoorPi
open Go Go.RowKit
theorem inv0 (W : World) : Inv (mm W) W := fun _ _ _ h => h
theorem below_of {C : Ctx} {m m' : Mem} {w w' : World} (c : Chg C m w m' w') : Below w.heap.size w w' := ⟨c.os, c.tape, c.output, c.size, fun b hb => c.heap b hb id⟩
theorem soundF {P : Program} {C : Ctx} {f : FuncId} {s : Sp} (h : SoundX P C f (.f s)) : Sound P C f s := h
end Go.Proofs.YtedenojeljjnaaaGreatDoorPi

namespace Go.Proofs.YtedenojeljjnaaaGreatDoorPi
open Go Go.Proofs Go.RowKit

/-- The wrap with a condition on the world, the world's shape kept. -/
theorem wrap_shaped {H : Type} {enc : TypeId × Value → H} {a : Assume} {C : Checked} {os : Os} {f : FuncId} {fn : Func} {s : ChangeSpec} {conds : List PathCond} {apart fresh handsOn again : Bool} {X : World → Array Value → Prop}
    (own : ownKnob C.prog.godebug = none) (started : os.Started) (noInit : C.prog.inits.idxOf? f = none) (hfn : C.prog.funcs[f]? = some fn)
    (witness : ∃ (w : World) (tape : Tape) (i : Input), w.os = os ∧ (w.forCall tape i).Shaped C.prog ∧ i.vars = [] ∧ Input.okWide C.prog (w.forCall tape i) .any w.heap.size f i ∧
      ((s.pre enc C.prog fn conds apart (w.forCall tape i).memory i.args ∧ X (w.forCall tape i).memory i.args) ∧ sizedMet enc C.prog fn (OpenSpec.ofChange s) apart (w.forCall tape i).memory i.args) ∧ a.holds C.prog (lone (Frame.enter C.prog f i.args .normal) [] (w.forCall tape i)))
    (contract : ∀ (W : World) (base : Nat) (args : Array Value) (ds gs : List (DataW H)) (before : List MemPlace),
      (∀ (j : Nat) t v, fn.params[j]? = some t → args[j]? = some v → Value.okWide C.prog W .any base t v) →
      DataW.Whole enc C.prog fn.params.toList s.vars apart W args.toList ds gs before →
      W.ShapedOpen C.prog →
      Calls C.prog f args W fun e W' => ∃ v, e = .returned v ∧ s.post enc C.prog fn apart fresh handsOn again W args v W') :
    ReturnsInHanded a C os f .any (fun w args => (s.pre enc C.prog fn conds apart w args ∧ X w args) ∧ sizedMet enc C.prog fn (OpenSpec.ofChange s) apart w args) (s.post enc C.prog fn apart fresh handsOn again) := by
  refine returnsInHanded_of_calls own started noInit witness ?_
  intro w tape i _ hsh _ hok hpre _
  obtain ⟨_, _, _, fn', hfn', _, _, _, _, hval⟩ := hok
  have e : fn' = fn := Option.some.inj (hfn'.symm.trans hfn)
  subst e
  obtain ⟨⟨⟨ds, gs, before, hw, _⟩, _⟩, _⟩ := hpre
  have hw' := DataW.Whole.of_heap (w' := w.forCall tape i) (by rfl) hw
  refine (contract (w.forCall tape i) w.heap.size i.args ds gs before hval hw' hsh).mono fun e W' ⟨v, he, hp⟩ => ?_
  subst he
  exact ChangeSpec.post_blind hp

end Go.Proofs.YtedenojeljjnaaaGreatDoorPi

namespace Go.Proofs.YtedenojeljjnaaaGreatDoor.posixSums
open Go Go.Proofs Go.Proofs.YtedenojeljjnaaaGreatDoorPi Go.ChangeShapes Go.WideShapes Go.ChangeAt Go.RowKit
set_option maxRecDepth 100000
theorem own : ownKnob Tryz.prog.godebug = none := by kernel_rfl
theorem kids : Kids Tryz.prog (· < Tryz.prog.types.size) := kids_rows (by kernel_rfl) (by kernel_rfl)
theorem walk (x : noonmarklaw26_PosixSums_ps.den) (gx : goods noonmarklaw26_PosixSums_ps x) (W : World) (vs : List Value) (hv : vals (e0 W) noonmarklaw26_PosixSums_ps x vs) (hG : CX.Γ (mm W)) : Calls Tryz.prog 3 vs.toArray W fun e W' => e = .returned (.bool true) ∧ Below W.heap.size W W' := by
  refine ((soundF noonmarklaw26_PosixSums_ok).calls 1000000 x (true, ()) (posixSums_law x) (mm W) (fun _ => none) (fun _ => none) W vs (inv0 W) hG hv).mono ?_
  rintro e W' ⟨v, m', rfl, hc, _, hr⟩
  exact ⟨by rw [vrep_bool hr], below_of hc⟩
theorem lifted (os : Os) (started : os.Started) (H : Type) (enc : TypeId × Value → H) :
    ReturnsInHanded {} Tryz.checked os 3 .any (fun w args => (Rows.posixSumsSpec.pre enc Tryz.prog Tryz.f3 Rows.posixSumsRow.domain false w args ∧ laidMetH Tryz.prog Rows.posixSumsRow.laid w) ∧ sizedMet enc Tryz.prog Tryz.f3 (OpenSpec.ofChange Rows.posixSumsSpec) false w args)
      (Rows.posixSumsSpec.post enc Tryz.prog Tryz.f3 false true false false) := by
  refine wrap_shaped (C := Tryz.checked) (X := fun w _ => laidMetH Tryz.prog Rows.posixSumsRow.laid w) own started (by kernel_rfl) Tryz.func3
    (ChangeSpec.witness_shaped (enc := enc) (C := Tryz.checked) (os := os) (X := fun w _ => laidMetH Tryz.prog Rows.posixSumsRow.laid w) false (World.laidAll Tryz.prog os Rows.posixSumsRow.laid) (zvals noonmarklaw26_PosixSums_ps).toArray 8 (World.laidAll_os _ _ _)
      (World.shaped_of_ZipB (by kernel_rfl) (by kernel_rfl)) (by kernel_rfl) (by kernel_rfl) (by kernel_rfl)
      (by rw [MakeChecks.laidMetH_plain _ _ _ (by kernel_rfl)]; exact laidMet_laidAll _ (by kernel_rfl) (by kernel_rfl))) ?_
  intro W base args ds gs before hval0 hW hsh
  have hW' := hW
  obtain ⟨p, q, hA0, hV, rfl, hfz, hnd⟩ := hW
  have hA : DataW.TrodAll enc Tryz.prog W 0 (fun _ => true) true [25, 3] args.toList ds p := by rw [Tryz.params3] at hA0; exact hA0
  obtain ⟨x, hx, gx, hl⟩ := open_all (n := 30) [25, 3] noonmarklaw26_PosixSums_ps args.toList ds p (by kernel_rfl) (fun j t v ht hv => hval0 j t v (by rw [Tryz.params3]; simpa using ht) (by simpa using hv)) hA
  obtain ⟨a, b, rfl⟩ := list2 hl
  obtain ⟨rfl, rfl⟩ := trodVars_none hV
  refine (walk x gx W args.toList hx (trivial)).mono fun e W' ⟨he, bel⟩ => ?_
  subst he
  have hB := close_all kids (by kernel_rfl) bel.block (ts := [25, 3]) (by decide +kernel) hA
  exact ⟨_, rfl, [a, b], _, _, [], _, [], hW', trodAll_mk1 (shut_bool Tryz.underlying4 _), by rw [Tryz.params3]; exact hB, rfl, bel.frame _, fun h => by cases h⟩
theorem over : Rows.PosixSumsSaid :=
  OpenClaim.holds_of_wide 3 Tryz.f3 rfl rfl rfl rfl rfl rfl rfl ⟨rfl, rfl, rfl, rfl, rfl⟩ rfl rfl rfl rfl rfl (by kernel_rfl) Tryz.func3 (by kernel_rfl)
    (of_decide_eq_true (by kernel_rfl)) (by unfold Func.isWrapper; first | (rw [if_pos (by decide +kernel)]; kernel_rfl) | (rw [if_neg (by decide +kernel)]; exact ⟨rfl, rfl⟩))
    (fun os started H enc _ => lifted os started H enc)
theorem card : Rows.PosixSumsCardSaid :=
  Claim7.holds_tied_plain_at .later [] [.data, .data, .data] true (true, "b81ce5be8205668be896925d968979642db062a0b7c5a703e1322c2343ed29dd") true over (fun _ h => by cases h) (by kernel_rfl) (fun _ h => by cases h) posixSums_row_tie rfl ⟨rfl, rfl⟩ (by kernel_rfl) rfl
    (fun f fn hf hfn => by
      obtain rfl : f = 3 := Option.some.inj ((show Tryz.prog.funcNamed "noonmark/noonmarklaw26.PosixSums" = some 3 by kernel_rfl).symm.trans hf) |>.symm
      obtain rfl : fn = Tryz.f3 := (Option.some.inj (Tryz.func3.symm.trans hfn)).symm
      exact ⟨by kernel_rfl, fun j t ht => by
        rw [Tryz.params3] at ht
        have hm : t ∈ [25, 3] := by simpa using Array.mem_of_getElem? ht
        have hall : ([25, 3].all fun u => !Tryz.prog.wantsStandIn u) = true := by kernel_rfl
        exact (show Tryz.prog.wantsStandIn t = false by simpa using List.all_eq_true.1 hall t hm)⟩)
    (by kernel_rfl)
end Go.Proofs.YtedenojeljjnaaaGreatDoor.posixSums
namespace Go.Proofs.YtedenojeljjnaaaGreatDoor
theorem posixSums_holds : Rows.PosixSumsCardSaid := posixSums.card
#print axioms posixSums_holds
end Go.Proofs.YtedenojeljjnaaaGreatDoor
