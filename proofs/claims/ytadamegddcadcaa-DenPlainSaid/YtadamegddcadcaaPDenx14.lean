import Derived.Test.YtadamegddcadcaaPDenx0
import Derived.Test.YtadamegddcadcaaPDenx13
namespace Go.Proofs.Ytadamegddcadcaa.PDen
open Go.Proofs.YtadamegddcadcaaV Go.RowKit Go.Proofs.YtadamegddcadcaaW.PrintWords Go.Proofs.YtadamegddcadcaaW.PrintLast Go.Proofs.YtadamegddcadcaaW.PrintMore
attribute [local go_sem] max2_int min2_int max_two min_two max_three min_three max_four min_four
set_option linter.unusedVariables false
set_option linter.unusedSimpArgs false
def den_End.j0 : Nat → Int → Bool → List (S48) → List (List (S53)) → Option (Int)
 | 0, _, _, _, _ => none
 | k + 1, x1, x29, x225000, x225001 => if x29 = true then (some 0) else (if 0 ≤ x1 then (if x1 < (x225000.length : Int) then ((den_clock.f k ((rd_T48 x225000 x1).f5.f0) ((rd_T48 x225000 x1).f5.f1) ((rd_T48 x225000 x1).f5.f2) ((rd_T48 x225000 x1).f5.f3.f0) ((rd_T48 x225000 x1).f5.f3.f1) ((rd_T48 x225000 x1).f5.f3.f2) ((rd_T48 x225000 x1).f5.f4.f0) ((rd_T48 x225000 x1).f5.f4.f1)).bind fun bt228 => (if bt228.2 = true then (if ((rd_T48 x225000 x1).f5.f4.f1) = 0 then ((den_Zone_saving.f k x225000 x225001 x1 (wrap64 ((wrap64 (bt228.1 - ((rd_T48 x225000 x1).f0))) - 1))).bind fun bt230 => (some (wrap64 ((wrap64 (bt228.1 - ((rd_T48 x225000 x1).f0))) - bt230.1)))) else (if ((rd_T48 x225000 x1).f5.f4.f1) = 1 then (some (wrap64 (bt228.1 - ((rd_T48 x225000 x1).f0)))) else (some bt228.1))) else (some 0))) else (none)) else (none))
def den_End.f (k : Nat) (l0_0 : List (S48)) (l0_1 : List (List (S53))) (a1 : Int) : Option (Int) := if a1 < 0 then (den_End.j0 k a1 true l0_0 l0_1) else (if a1 ≥ (l0_0.length : Int) then (den_End.j0 k a1 true l0_0 l0_1) else (if 0 ≤ a1 then (if a1 < (l0_0.length : Int) then (den_End.j0 k a1 (!((rd_T48 l0_0 a1).f5.f0)) l0_0 l0_1) else (none)) else (none)))
theorem den_End.mono_l : ∀ k, (∀ y0 y1 y2 y3, LeO (den_End.j0 k y0 y1 y2 y3) (den_End.j0 (k + 1) y0 y1 y2 y3))
 | 0 => fun _ _ _ _ r h => by simp [den_End.j0] at h
 | k + 1 => by
  have ih0 := den_End.mono_l k
  ·intro y0 y1 y2 y3
   unfold den_End.j0
   repeat' first
   | (with_reducible exact ih0 _ _ _ _)
   | (with_reducible exact den_Zone_saving.mono _ _ _ _ _)
   | (with_reducible exact den_clock.mono _ _ _ _ _ _ _ _ _)
   | (with_reducible exact LeO.refl _)
   | (with_reducible exact LeO.none _)
   | (with_reducible refine LeO.ite ?_ ?_)
   | (with_reducible refine LeO.bind ?_ (fun _ => ?_))
   | exact ih0 _ _ _ _
   | exact den_Zone_saving.mono _ _ _ _ _
   | exact den_clock.mono _ _ _ _ _ _ _ _ _
   | exact LeO.none _
   | refine LeO.ite ?_ ?_
   | refine LeO.bind ?_ (fun _ => ?_)
theorem den_End.mono : ∀ a0 a1 a2 k, LeO (den_End.f k a0 a1 a2) (den_End.f (k + 1) a0 a1 a2) := by
 intro a0 a1 a2 k
 have ih0 := den_End.mono_l k
 unfold den_End.f
 repeat' first
   | (with_reducible exact ih0 _ _ _ _)
   | (with_reducible exact den_Zone_saving.mono _ _ _ _ _)
   | (with_reducible exact den_clock.mono _ _ _ _ _ _ _ _ _)
   | (with_reducible exact LeO.refl _)
   | (with_reducible exact LeO.none _)
   | (with_reducible refine LeO.ite ?_ ?_)
   | (with_reducible refine LeO.bind ?_ (fun _ => ?_))
   | exact ih0 _ _ _ _
   | exact den_Zone_saving.mono _ _ _ _ _
   | exact den_clock.mono _ _ _ _ _ _ _ _ _
   | exact LeO.none _
   | refine LeO.ite ?_ ?_
   | refine LeO.bind ?_ (fun _ => ?_)
set_option maxHeartbeats 8000000 in
set_option maxRecDepth 100000 in
theorem den_End.calls (k : Nat) (A0_0 : Option Addr) (c0_0 : Nat) (l0_0 : List (S48)) (A0_1 : Option Addr) (c0_1 : Nat) (l0_1 : List (List (S53))) (a1 : Int) (r : Int) (w : World) (hr0_0 : Kd.C k48 w A0_0 l0_0.length l0_0) (hc0_0 : l0_0.length ≤ c0_0) (hr0_1 : Kd.C (Kd.slice 53 k53) w A0_1 l0_1.length l0_1) (hc0_1 : l0_1.length ≤ c0_1) (h : den_End.f k l0_0 l0_1 a1 = some r) :
  Calls Try.prog 11 #[.agg #[.slice A0_0 l0_0.length c0_0, .slice A0_1 l0_1.length c0_1], .int .i64 a1] w fun e w' => e = .returned (.int .i64 r) ∧ Below w.heap.size w w' := by
 have hu33 := Try.underlying33
 have hu48 := Try.underlying48
 have hu46 := Try.underlying46
 have HR0_0 := aM hr0_0
 have HC0_0 := aM hc0_0
 clear hr0_0 hc0_0
 have HR0_1 := aM hr0_1
 have HC0_1 := aM hc0_1
 clear hr0_1 hc0_1
 have HB := aM (Below.refl w.heap.size w)
 have H : (if a1 < 0 then (den_End.j0 k a1 true l0_0 l0_1) else (if a1 ≥ (l0_0.length : Int) then (den_End.j0 k a1 true l0_0 l0_1) else (if 0 ≤ a1 then (if a1 < (l0_0.length : Int) then (den_End.j0 k a1 (!((rd_T48 l0_0 a1).f5.f0)) l0_0 l0_1) else (none)) else (none)))) = some r := h
 clear h
 have HC3 := aM H
 clear H
 go_enter Try.func11, Try.ntmps11
 go_upto_region 1 with (first | ((with_reducible refine gate_dst (N := 2) rfl ?_); (try (refine gate_guard (by rfl) ?_; dsimp only)); refine box_event ?hg (N := 2) ?hd (cs := #[.slice A0_0 l0_0.length c0_0, .slice A0_1 l0_1.length c0_1]) (t := 33) ?hr ?_; (case hd => rfl); (case hg => rfl); (case hr => first | (go_simp; done) | (go_simp; rfl)); intro gb224 hg w4 hbox hb; have n0_ := aM (below_step (by repeat (first | (with_reducible first | exact HB.out | apply lA | apply lN | apply lD) | exact HB.out)) hb); have n1_ := aM (hbox); have n2_ := aM ((by rw [hg]; exact (below_size (by repeat (first | (with_reducible first | exact HB.out | apply lA | apply lN | apply lD) | exact HB.out))) : w.heap.size ≤ gb224)); have n3_ := aM ((by rw [hg]; exact (below_size (by repeat (first | (with_reducible first | exact HB.out | apply lA | apply lN | apply lD) | exact HB.out))) : w.heap.size ≤ gb224)); clear HB; have HB := n0_; have BK224 := n1_; have GW224 := n2_; have GE224 := n3_; clear n0_ n1_ n2_ n3_; clear hb hbox hg))
 (try simp only [Act.put, sA, sZ, sS])
 go_cut [29] (fun v29 wc => ∃ (kq : Nat) (x29_2 : Bool), v29 = .bool x29_2 ∧ Aside0 (den_End.j0 kq a1 x29_2 l0_0 l0_1 = some r) ∧ Aside0 (kq ≤ k) ∧ Aside0 (wc.heap[gb224]? = some (.cells #[(.slice A0_0 l0_0.length c0_0), (.slice A0_1 l0_1.length c0_1)] 33 (0, 0))) ∧ Aside0 (Below w.heap.size w wc))
 case first =>
  have H := HC3.out
  clear HC3
  by_cases c5 : a1 < 0
  ·rw [if_pos c5] at H
   have c5b0 : decide (a1 < 0) = true := decide_eq_true c5
   clear c5
   (first | rw [c5b0] | (simp only [i64_w, i32_w]; rw [c5b0]) | skip)
   have H' := aM H
   clear H
   go_wp2
   go_meet
   case rel => exact ⟨_, (true), (by first | rfl | (simp; done) | (simp [*]; done)), H', ⟨by first | omega | exact Nat.le_refl _⟩, ⟨by (with_reducible repeat first | apply bN | apply bD | apply bA); exact BK224.out⟩, ⟨by repeat (first | (with_reducible first | exact HB.out | apply lA | apply lN | apply lD | refine lS ?_ GE224.out) | exact HB.out)⟩⟩
  ·rw [if_neg c5] at H
   have c5b0 : decide (a1 < 0) = false := decide_eq_false c5
   clear c5
   (first | rw [c5b0] | (simp only [i64_w, i32_w]; rw [c5b0]) | skip)
   by_cases c6 : a1 ≥ (l0_0.length : Int)
   ·rw [if_pos c6] at H
    have c6b0 : decide ((l0_0.length : Int) ≤ a1) = true := decide_eq_true c6
    clear c6
    have H' := aM H
    clear H
    obtain ⟨hcz7_0, hcz7_1⟩ := blkC2 BK224.out
    obtain ⟨hfz7_0, hfz7_1⟩ := blkF2 BK224.out
    go_wp2
    go_meet
    case rel => exact ⟨_, (true), (by first | rfl | (simp; done) | (simp [*]; done)), H', ⟨by first | omega | exact Nat.le_refl _⟩, ⟨by (with_reducible repeat first | apply bN | apply bD | apply bA); exact BK224.out⟩, ⟨by repeat (first | (with_reducible first | exact HB.out | apply lA | apply lN | apply lD | refine lS ?_ GE224.out) | exact HB.out)⟩⟩
   ·rw [if_neg c6] at H
    have c6b0 : decide ((l0_0.length : Int) ≤ a1) = false := decide_eq_false c6
    clear c6
    by_cases c8 : 0 ≤ a1
    ·rw [if_pos c8] at H
     have c8b0 : decide (0 ≤ a1) = true := decide_eq_true c8
     clear c8
     by_cases c9 : a1 < (l0_0.length : Int)
     ·rw [if_pos c9] at H
      have c9b0 : decide (a1 < (l0_0.length : Int)) = true := decide_eq_true c9
      clear c9
      have H' := aM H
      clear H
      obtain ⟨hcz10_0, hcz10_1⟩ := blkC2 BK224.out
      obtain ⟨hfz10_0, hfz10_1⟩ := blkF2 BK224.out
      have p225 : 0 ≤ (a1 : Int) := of_decide_eq_true (by assumption)
      have q225 : a1 < (l0_0.length : Int) := of_decide_eq_true (by assumption)
      obtain ⟨ad225, e225, hx225_0, hx225_1, hx225_2, hx225_3, hx225_4, hx225_5, hx225_6, hx225_7, hx225_8, hx225_9, hx225_10, hx225_11, hx225_12⟩ := at_T48 HR0_0.out a1 p225 q225
      cases e225
      replace hx225_0 := (HB.out.cell (wB w _ hx225_0)).trans hx225_0
      replace hx225_1 := (HB.out.cell (wB w _ hx225_1)).trans hx225_1
      replace hx225_2 := (HB.out.cell (wB w _ hx225_2)).trans hx225_2
      replace hx225_3 := (HB.out.cell (wB w _ hx225_3)).trans hx225_3
      replace hx225_4 := (HB.out.cell (wB w _ hx225_4)).trans hx225_4
      replace hx225_5 := (HB.out.cell (wB w _ hx225_5)).trans hx225_5
      replace hx225_6 := (HB.out.cell (wB w _ hx225_6)).trans hx225_6
      replace hx225_7 := (HB.out.cell (wB w _ hx225_7)).trans hx225_7
      replace hx225_8 := (HB.out.cell (wB w _ hx225_8)).trans hx225_8
      replace hx225_9 := (HB.out.cell (wB w _ hx225_9)).trans hx225_9
      replace hx225_10 := (HB.out.cell (wB w _ hx225_10)).trans hx225_10
      replace hx225_11 := (HB.out.cell (wB w _ hx225_11)).trans hx225_11
      replace hx225_12 := (HB.out.cell (wB w _ hx225_12)).trans hx225_12
      replace p225 := eq_true p225
      replace q225 := eq_true q225
      go_wp2
      go_meet
      case rel => exact ⟨_, (!((rd_T48 l0_0 a1).f5.f0)), (by first | rfl | (simp; done) | (simp [*]; done)), H', ⟨by first | omega | exact Nat.le_refl _⟩, ⟨by (with_reducible repeat first | apply bN | apply bD | apply bA); exact BK224.out⟩, ⟨by repeat (first | (with_reducible first | exact HB.out | apply lA | apply lN | apply lD | refine lS ?_ GE224.out) | exact HB.out)⟩⟩
     ·rw [if_neg c9] at H
      exact absurd H (by simp)
    ·rw [if_neg c8] at H
     exact absurd H (by simp)
 case rest =>
  clear HC3
  try clear c1; try clear p2; try clear q2; try clear hx2; try clear c5; try clear c5b0; try clear c6; try clear c6b0; try clear c8; try clear c8b0; try clear c9; try clear c9b0; try clear hcz10_0; try clear hcz10_1; try clear hcz7_0; try clear hcz7_1; try clear hfz10_0; try clear hfz10_1; try clear hfz7_0; try clear hfz7_1; try clear hx225_0; try clear hx225_1; try clear hx225_10; try clear hx225_11; try clear hx225_12; try clear hx225_2; try clear hx225_3; try clear hx225_4; try clear hx225_5; try clear hx225_6; try clear hx225_7; try clear hx225_8; try clear hx225_9; try clear p225; try clear q225
  obtain ⟨kq, x29_2, rfl, HA, HJ2, BK224, HB⟩ := hcut
  cases kq with
  | zero => exact absurd HA.out (by simp [den_End.j0])
  | succ kj2 =>
   have H := HA.out
   clear HA
   simp only [den_End.j0] at H
   by_cases c11 : x29_2 = true
   ·subst c11
    have H1 : (some 0) = some r := by rw [if_pos rfl] at H; exact H
    clear H
    have H := H1
    clear H1
    obtain rfl := Option.some.inj H
    go_wp2
    go_ret
    exact ⟨by first | rfl | (simp [errW_none, errW_some] <;> rfl) | (simp [*, errW_none, errW_some] <;> rfl), by repeat (first | (with_reducible first | exact HB.out | apply lA | apply lN | apply lD | refine lS ?_ GE224.out) | exact HB.out)⟩
   ·replace c11 := Bool.eq_false_iff.mpr c11
    subst c11
    have H1 : (if 0 ≤ a1 then (if a1 < (l0_0.length : Int) then ((den_clock.f kj2 ((rd_T48 l0_0 a1).f5.f0) ((rd_T48 l0_0 a1).f5.f1) ((rd_T48 l0_0 a1).f5.f2) ((rd_T48 l0_0 a1).f5.f3.f0) ((rd_T48 l0_0 a1).f5.f3.f1) ((rd_T48 l0_0 a1).f5.f3.f2) ((rd_T48 l0_0 a1).f5.f4.f0) ((rd_T48 l0_0 a1).f5.f4.f1)).bind fun bt228 => (if bt228.2 = true then (if ((rd_T48 l0_0 a1).f5.f4.f1) = 0 then ((den_Zone_saving.f kj2 l0_0 l0_1 a1 (wrap64 ((wrap64 (bt228.1 - ((rd_T48 l0_0 a1).f0))) - 1))).bind fun bt230 => (some (wrap64 ((wrap64 (bt228.1 - ((rd_T48 l0_0 a1).f0))) - bt230.1)))) else (if ((rd_T48 l0_0 a1).f5.f4.f1) = 1 then (some (wrap64 (bt228.1 - ((rd_T48 l0_0 a1).f0)))) else (some bt228.1))) else (some 0))) else (none)) else (none)) = some r := by rw [if_neg (show ¬ (false = true) by decide)] at H; exact H
    clear H
    have H := H1
    clear H1
    by_cases c12 : 0 ≤ a1
    ·rw [if_pos c12] at H
     have c12b0 : decide (0 ≤ a1) = true := decide_eq_true c12
     clear c12
     by_cases c13 : a1 < (l0_0.length : Int)
     ·rw [if_pos c13] at H
      have c13b0 : decide (a1 < (l0_0.length : Int)) = true := decide_eq_true c13
      clear c13
      replace H := Option.bind_eq_some_iff.mp H
      obtain ⟨⟨t228, t229⟩, A140, H⟩ := H
      replace H : (if t229 = true then (if ((rd_T48 l0_0 a1).f5.f4.f1) = 0 then ((den_Zone_saving.f kj2 l0_0 l0_1 a1 (wrap64 ((wrap64 (t228 - ((rd_T48 l0_0 a1).f0))) - 1))).bind fun bt230 => (some (wrap64 ((wrap64 (t228 - ((rd_T48 l0_0 a1).f0))) - bt230.1)))) else (if ((rd_T48 l0_0 a1).f5.f4.f1) = 1 then (some (wrap64 (t228 - ((rd_T48 l0_0 a1).f0)))) else (some t228))) else (some 0)) = some r := H
      have A14 := aM A140
      clear A140
      by_cases c15 : t229 = true
      ·subst c15
       have H1 : (if ((rd_T48 l0_0 a1).f5.f4.f1) = 0 then ((den_Zone_saving.f kj2 l0_0 l0_1 a1 (wrap64 ((wrap64 (t228 - ((rd_T48 l0_0 a1).f0))) - 1))).bind fun bt230 => (some (wrap64 ((wrap64 (t228 - ((rd_T48 l0_0 a1).f0))) - bt230.1)))) else (if ((rd_T48 l0_0 a1).f5.f4.f1) = 1 then (some (wrap64 (t228 - ((rd_T48 l0_0 a1).f0)))) else (some t228))) = some r := by rw [if_pos rfl] at H; exact H
       clear H
       have H := H1
       clear H1
       by_cases c16 : ((rd_T48 l0_0 a1).f5.f4.f1) = 0
       ·rw [if_pos c16] at H
        have c16b0 : (((rd_T48 l0_0 a1).f5.f4.f1) == 0) = true := beq_iff_eq.mpr c16
        have c16b1 : (((rd_T48 l0_0 a1).f5.f4.f1) != 0) = false := bne_eq_false_iff_eq.mpr c16
        clear c16
        replace H := Option.bind_eq_some_iff.mp H
        obtain ⟨⟨t230, t231⟩, A170, H⟩ := H
        replace H : (some (wrap64 ((wrap64 (t228 - ((rd_T48 l0_0 a1).f0))) - t230))) = some r := H
        have A17 := aM A170
        clear A170
        obtain rfl := Option.some.inj H
        obtain ⟨hcz18_0, hcz18_1⟩ := blkC2 BK224.out
        obtain ⟨hfz18_0, hfz18_1⟩ := blkF2 BK224.out
        have p226 : 0 ≤ (a1 : Int) := of_decide_eq_true (by assumption)
        have q226 : a1 < (l0_0.length : Int) := of_decide_eq_true (by assumption)
        obtain ⟨ad226, e226, hx226_0, hx226_1, hx226_2, hx226_3, hx226_4, hx226_5, hx226_6, hx226_7, hx226_8, hx226_9, hx226_10, hx226_11, hx226_12⟩ := at_T48 HR0_0.out a1 p226 q226
        cases e226
        replace hx226_0 := (HB.out.cell (wB w _ hx226_0)).trans hx226_0
        replace hx226_1 := (HB.out.cell (wB w _ hx226_1)).trans hx226_1
        replace hx226_2 := (HB.out.cell (wB w _ hx226_2)).trans hx226_2
        replace hx226_3 := (HB.out.cell (wB w _ hx226_3)).trans hx226_3
        replace hx226_4 := (HB.out.cell (wB w _ hx226_4)).trans hx226_4
        replace hx226_5 := (HB.out.cell (wB w _ hx226_5)).trans hx226_5
        replace hx226_6 := (HB.out.cell (wB w _ hx226_6)).trans hx226_6
        replace hx226_7 := (HB.out.cell (wB w _ hx226_7)).trans hx226_7
        replace hx226_8 := (HB.out.cell (wB w _ hx226_8)).trans hx226_8
        replace hx226_9 := (HB.out.cell (wB w _ hx226_9)).trans hx226_9
        replace hx226_10 := (HB.out.cell (wB w _ hx226_10)).trans hx226_10
        replace hx226_11 := (HB.out.cell (wB w _ hx226_11)).trans hx226_11
        replace hx226_12 := (HB.out.cell (wB w _ hx226_12)).trans hx226_12
        replace p226 := eq_true p226
        replace q226 := eq_true q226
        go_wp2_with (first | ((with_reducible refine gate_dst (N := 5) rfl ?_); (try (refine gate_guard (by rfl) ?_; dsimp only)); refine box_event ?hg (N := 5) ?hd (cs := #[.int .i64 0, .int .i64 0, .int .i64 0, .string (⟨#[]⟩ : ByteArray), .string (⟨#[]⟩ : ByteArray), .bool false, .int .i64 0, .int .i64 0, .int .i64 0, .int .i64 0, .int .i64 0, .int .i64 0, .int .i64 0]) (t := 48) ?hr ?_; (case hd => rfl); (case hg => rfl); (case hr => first | (go_simp; done) | (go_simp; rfl)); intro gb227 hg w19 hbox hb; have n0_ := aM (blk_below (bX BK224.out) hb); have n1_ := aM (below_step (by repeat (first | (with_reducible first | exact HB.out | apply lA | apply lN | apply lD | refine lS ?_ GE224.out) | exact HB.out)) hb); have n2_ := aM (hbox); have n3_ := aM ((by rw [hg]; exact (below_size (by repeat (first | (with_reducible first | exact HB.out | apply lA | apply lN | apply lD | refine lS ?_ GE224.out) | exact HB.out))) : w.heap.size ≤ gb227)); have n4_ := aM ((by rw [hg]; exact (below_size (by repeat (first | (with_reducible first | exact HB.out | apply lA | apply lN | apply lD | refine lS ?_ GE224.out) | exact HB.out))) : w.heap.size ≤ gb227)); have n5_ := aM ((by rw [hg]; exact Nat.ne_of_lt (blk_lt (bX BK224.out)) : gb224 ≠ gb227)); have n6_ := aM ((by rw [hg]; exact Nat.ne_of_gt (blk_lt (bX BK224.out)) : gb227 ≠ gb224)); clear BK224; clear HB; have BK224 := n0_; have HB := n1_; have BK227 := n2_; have GW227 := n3_; have GE227 := n4_; have NB224_227 := n5_; have NB227_224 := n6_; clear n0_ n1_ n2_ n3_ n4_ n5_ n6_; clear hb hbox hg; have hnb20 := NB227_224.out; have hnc20 := NB224_227.out; obtain ⟨hcz21_0, hcz21_1, hcz21_2, hcz21_3, hcz21_4, hcz21_5, hcz21_6, hcz21_7, hcz21_8, hcz21_9, hcz21_10, hcz21_11, hcz21_12⟩ := blkC13 BK227.out; obtain ⟨hfz21_0, hfz21_1, hfz21_2, hfz21_3, hfz21_4, hfz21_5, hfz21_6, hfz21_7, hfz21_8, hfz21_9, hfz21_10, hfz21_11, hfz21_12⟩ := blkF13 BK227.out) | ((with_reducible refine gate_callee (f := 20) rfl ?_); refine goesL_ (some 38) rfl rfl Try.func20 (by kernel_rfl) rfl #[.agg #[.bool ((rd_T48 l0_0 a1).f5.f0), .int .i64 ((rd_T48 l0_0 a1).f5.f1), .int .i64 ((rd_T48 l0_0 a1).f5.f2), .int .i64 ((rd_T48 l0_0 a1).f5.f3.f0), .int .i64 ((rd_T48 l0_0 a1).f5.f3.f1), .int .i64 ((rd_T48 l0_0 a1).f5.f3.f2), .int .i64 ((rd_T48 l0_0 a1).f5.f4.f0), .int .i64 ((rd_T48 l0_0 a1).f5.f4.f1)]] rfl (by (try simp only [List.map_toArray, List.map_cons, List.map_nil]); first | done | rfl | (simp only [List.length_drop, List.length_take]; rfl)) ?_; (with_reducible refine (den_clock.calls kj2 ((rd_T48 l0_0 a1).f5.f0) ((rd_T48 l0_0 a1).f5.f1) ((rd_T48 l0_0 a1).f5.f2) ((rd_T48 l0_0 a1).f5.f3.f0) ((rd_T48 l0_0 a1).f5.f3.f1) ((rd_T48 l0_0 a1).f5.f3.f2) ((rd_T48 l0_0 a1).f5.f4.f0) ((rd_T48 l0_0 a1).f5.f4.f1) t228 true _ A14.out).mono ?_); rintro e w22 ⟨rfl, hb⟩; refine ⟨_, rfl, ?_⟩; have n0_ := aM (blk_below (g := gb224) (o := .cells #[.slice (some ad226) l0_0.length c0_0, .slice A0_1 l0_1.length c0_1] 33 (0, 0)) (by (with_reducible repeat first | apply bN | apply bD | apply bA); refine blk_far ?_ NB224_227.out _; (with_reducible repeat first | apply bN | apply bD | apply bA); refine blk_far ?_ NB224_227.out _; (with_reducible repeat first | apply bN | apply bD | apply bA); refine blk_far ?_ NB224_227.out _; (with_reducible repeat first | apply bN | apply bD | apply bA); refine blk_far ?_ NB224_227.out _; (with_reducible repeat first | apply bN | apply bD | apply bA); refine blk_far ?_ NB224_227.out _; (with_reducible repeat first | apply bN | apply bD | apply bA); refine blk_far ?_ NB224_227.out _; (with_reducible repeat first | apply bN | apply bD | apply bA); refine blk_far ?_ NB224_227.out _; (with_reducible repeat first | apply bN | apply bD | apply bA); refine blk_far ?_ NB224_227.out _; (with_reducible repeat first | apply bN | apply bD | apply bA); refine blk_far ?_ NB224_227.out _; (with_reducible repeat first | apply bN | apply bD | apply bA); refine blk_far ?_ NB224_227.out _; (with_reducible repeat first | apply bN | apply bD | apply bA); refine blk_far ?_ NB224_227.out _; (with_reducible repeat first | apply bN | apply bD | apply bA); refine blk_far ?_ NB224_227.out _; (with_reducible repeat first | apply bN | apply bD | apply bA); refine blk_far ?_ NB224_227.out _; (with_reducible repeat first | apply bN | apply bD | apply bA); exact BK224.out) hb); have n1_ := aM (blk_below (g := gb227) (o := .cells #[.int .i64 ((rd_T48 l0_0 a1).f0), .int .i64 ((rd_T48 l0_0 a1).f1), .int .i64 ((rd_T48 l0_0 a1).f2), .string ((rd_T48 l0_0 a1).f3), .string ((rd_T48 l0_0 a1).f4), .bool ((rd_T48 l0_0 a1).f5.f0), .int .i64 ((rd_T48 l0_0 a1).f5.f1), .int .i64 ((rd_T48 l0_0 a1).f5.f2), .int .i64 ((rd_T48 l0_0 a1).f5.f3.f0), .int .i64 ((rd_T48 l0_0 a1).f5.f3.f1), .int .i64 ((rd_T48 l0_0 a1).f5.f3.f2), .int .i64 ((rd_T48 l0_0 a1).f5.f4.f0), .int .i64 ((rd_T48 l0_0 a1).f5.f4.f1)] 48 (0, 0)) (by (with_reducible repeat first | apply bN | apply bD | apply bA); refine blk_put (cs := #[.int .i64 ((rd_T48 l0_0 a1).f0), .int .i64 ((rd_T48 l0_0 a1).f1), .int .i64 ((rd_T48 l0_0 a1).f2), .string ((rd_T48 l0_0 a1).f3), .string ((rd_T48 l0_0 a1).f4), .bool ((rd_T48 l0_0 a1).f5.f0), .int .i64 ((rd_T48 l0_0 a1).f5.f1), .int .i64 ((rd_T48 l0_0 a1).f5.f2), .int .i64 ((rd_T48 l0_0 a1).f5.f3.f0), .int .i64 ((rd_T48 l0_0 a1).f5.f3.f1), .int .i64 ((rd_T48 l0_0 a1).f5.f3.f2), .int .i64 ((rd_T48 l0_0 a1).f5.f4.f0), .int .i64 0]) ?_ 12 _ rfl; (with_reducible repeat first | apply bN | apply bD | apply bA); refine blk_put (cs := #[.int .i64 ((rd_T48 l0_0 a1).f0), .int .i64 ((rd_T48 l0_0 a1).f1), .int .i64 ((rd_T48 l0_0 a1).f2), .string ((rd_T48 l0_0 a1).f3), .string ((rd_T48 l0_0 a1).f4), .bool ((rd_T48 l0_0 a1).f5.f0), .int .i64 ((rd_T48 l0_0 a1).f5.f1), .int .i64 ((rd_T48 l0_0 a1).f5.f2), .int .i64 ((rd_T48 l0_0 a1).f5.f3.f0), .int .i64 ((rd_T48 l0_0 a1).f5.f3.f1), .int .i64 ((rd_T48 l0_0 a1).f5.f3.f2), .int .i64 0, .int .i64 0]) ?_ 11 _ rfl; (with_reducible repeat first | apply bN | apply bD | apply bA); refine blk_put (cs := #[.int .i64 ((rd_T48 l0_0 a1).f0), .int .i64 ((rd_T48 l0_0 a1).f1), .int .i64 ((rd_T48 l0_0 a1).f2), .string ((rd_T48 l0_0 a1).f3), .string ((rd_T48 l0_0 a1).f4), .bool ((rd_T48 l0_0 a1).f5.f0), .int .i64 ((rd_T48 l0_0 a1).f5.f1), .int .i64 ((rd_T48 l0_0 a1).f5.f2), .int .i64 ((rd_T48 l0_0 a1).f5.f3.f0), .int .i64 ((rd_T48 l0_0 a1).f5.f3.f1), .int .i64 0, .int .i64 0, .int .i64 0]) ?_ 10 _ rfl; (with_reducible repeat first | apply bN | apply bD | apply bA); refine blk_put (cs := #[.int .i64 ((rd_T48 l0_0 a1).f0), .int .i64 ((rd_T48 l0_0 a1).f1), .int .i64 ((rd_T48 l0_0 a1).f2), .string ((rd_T48 l0_0 a1).f3), .string ((rd_T48 l0_0 a1).f4), .bool ((rd_T48 l0_0 a1).f5.f0), .int .i64 ((rd_T48 l0_0 a1).f5.f1), .int .i64 ((rd_T48 l0_0 a1).f5.f2), .int .i64 ((rd_T48 l0_0 a1).f5.f3.f0), .int .i64 0, .int .i64 0, .int .i64 0, .int .i64 0]) ?_ 9 _ rfl; (with_reducible repeat first | apply bN | apply bD | apply bA); refine blk_put (cs := #[.int .i64 ((rd_T48 l0_0 a1).f0), .int .i64 ((rd_T48 l0_0 a1).f1), .int .i64 ((rd_T48 l0_0 a1).f2), .string ((rd_T48 l0_0 a1).f3), .string ((rd_T48 l0_0 a1).f4), .bool ((rd_T48 l0_0 a1).f5.f0), .int .i64 ((rd_T48 l0_0 a1).f5.f1), .int .i64 ((rd_T48 l0_0 a1).f5.f2), .int .i64 0, .int .i64 0, .int .i64 0, .int .i64 0, .int .i64 0]) ?_ 8 _ rfl; (with_reducible repeat first | apply bN | apply bD | apply bA); refine blk_put (cs := #[.int .i64 ((rd_T48 l0_0 a1).f0), .int .i64 ((rd_T48 l0_0 a1).f1), .int .i64 ((rd_T48 l0_0 a1).f2), .string ((rd_T48 l0_0 a1).f3), .string ((rd_T48 l0_0 a1).f4), .bool ((rd_T48 l0_0 a1).f5.f0), .int .i64 ((rd_T48 l0_0 a1).f5.f1), .int .i64 0, .int .i64 0, .int .i64 0, .int .i64 0, .int .i64 0, .int .i64 0]) ?_ 7 _ rfl; (with_reducible repeat first | apply bN | apply bD | apply bA); refine blk_put (cs := #[.int .i64 ((rd_T48 l0_0 a1).f0), .int .i64 ((rd_T48 l0_0 a1).f1), .int .i64 ((rd_T48 l0_0 a1).f2), .string ((rd_T48 l0_0 a1).f3), .string ((rd_T48 l0_0 a1).f4), .bool ((rd_T48 l0_0 a1).f5.f0), .int .i64 0, .int .i64 0, .int .i64 0, .int .i64 0, .int .i64 0, .int .i64 0, .int .i64 0]) ?_ 6 _ rfl; (with_reducible repeat first | apply bN | apply bD | apply bA); refine blk_put (cs := #[.int .i64 ((rd_T48 l0_0 a1).f0), .int .i64 ((rd_T48 l0_0 a1).f1), .int .i64 ((rd_T48 l0_0 a1).f2), .string ((rd_T48 l0_0 a1).f3), .string ((rd_T48 l0_0 a1).f4), .bool false, .int .i64 0, .int .i64 0, .int .i64 0, .int .i64 0, .int .i64 0, .int .i64 0, .int .i64 0]) ?_ 5 _ rfl; (with_reducible repeat first | apply bN | apply bD | apply bA); refine blk_put (cs := #[.int .i64 ((rd_T48 l0_0 a1).f0), .int .i64 ((rd_T48 l0_0 a1).f1), .int .i64 ((rd_T48 l0_0 a1).f2), .string ((rd_T48 l0_0 a1).f3), .string (⟨#[]⟩ : ByteArray), .bool false, .int .i64 0, .int .i64 0, .int .i64 0, .int .i64 0, .int .i64 0, .int .i64 0, .int .i64 0]) ?_ 4 _ rfl; (with_reducible repeat first | apply bN | apply bD | apply bA); refine blk_put (cs := #[.int .i64 ((rd_T48 l0_0 a1).f0), .int .i64 ((rd_T48 l0_0 a1).f1), .int .i64 ((rd_T48 l0_0 a1).f2), .string (⟨#[]⟩ : ByteArray), .string (⟨#[]⟩ : ByteArray), .bool false, .int .i64 0, .int .i64 0, .int .i64 0, .int .i64 0, .int .i64 0, .int .i64 0, .int .i64 0]) ?_ 3 _ rfl; (with_reducible repeat first | apply bN | apply bD | apply bA); refine blk_put (cs := #[.int .i64 ((rd_T48 l0_0 a1).f0), .int .i64 ((rd_T48 l0_0 a1).f1), .int .i64 0, .string (⟨#[]⟩ : ByteArray), .string (⟨#[]⟩ : ByteArray), .bool false, .int .i64 0, .int .i64 0, .int .i64 0, .int .i64 0, .int .i64 0, .int .i64 0, .int .i64 0]) ?_ 2 _ rfl; (with_reducible repeat first | apply bN | apply bD | apply bA); refine blk_put (cs := #[.int .i64 ((rd_T48 l0_0 a1).f0), .int .i64 0, .int .i64 0, .string (⟨#[]⟩ : ByteArray), .string (⟨#[]⟩ : ByteArray), .bool false, .int .i64 0, .int .i64 0, .int .i64 0, .int .i64 0, .int .i64 0, .int .i64 0, .int .i64 0]) ?_ 1 _ rfl; (with_reducible repeat first | apply bN | apply bD | apply bA); refine blk_put (cs := #[.int .i64 0, .int .i64 0, .int .i64 0, .string (⟨#[]⟩ : ByteArray), .string (⟨#[]⟩ : ByteArray), .bool false, .int .i64 0, .int .i64 0, .int .i64 0, .int .i64 0, .int .i64 0, .int .i64 0, .int .i64 0]) ?_ 0 _ rfl; (with_reducible repeat first | apply bN | apply bD | apply bA); exact BK227.out) hb); have n2_ := aM (below_step (by repeat (first | (with_reducible first | exact HB.out | apply lA | apply lN | apply lD | refine lS ?_ GE224.out | refine lS ?_ GE227.out) | exact HB.out)) hb); clear BK224; clear BK227; clear HB; have BK224 := n0_; have BK227 := n1_; have HB := n2_; clear n0_ n1_ n2_; (try clear hb); (try clear hb2); (try clear hk); (try clear hi); obtain ⟨hcz23_0, hcz23_1, hcz23_2, hcz23_3, hcz23_4, hcz23_5, hcz23_6, hcz23_7, hcz23_8, hcz23_9, hcz23_10, hcz23_11, hcz23_12⟩ := blkC13 BK227.out; obtain ⟨hfz23_0, hfz23_1, hfz23_2, hfz23_3, hfz23_4, hfz23_5, hfz23_6, hfz23_7, hfz23_8, hfz23_9, hfz23_10, hfz23_11, hfz23_12⟩ := blkF13 BK227.out; obtain ⟨hcz24_0, hcz24_1⟩ := blkC2 BK224.out; obtain ⟨hfz24_0, hfz24_1⟩ := blkF2 BK224.out) | ((with_reducible refine gate_callee (f := 15) rfl ?_); refine goesL_ (some 59) rfl rfl Try.func15 (by kernel_rfl) rfl #[.agg #[.slice (some ad226) l0_0.length c0_0, .slice A0_1 l0_1.length c0_1], .int .i64 a1, .int .i64 (wrap64 ((wrap64 (t228 - ((rd_T48 l0_0 a1).f0))) - 1))] rfl (by (try simp only [List.map_toArray, List.map_cons, List.map_nil]); first | done | rfl | (simp only [List.length_drop, List.length_take]; rfl)) ?_; (with_reducible refine (den_Zone_saving.calls kj2 _ _ l0_0 _ _ l0_1 a1 (wrap64 ((wrap64 (t228 - ((rd_T48 l0_0 a1).f0))) - 1)) t230 t231 _ ?side1 ?side2 ?side3 ?side4 A17.out).mono ?_); (case side1 => repeat (first | exact (Kd.C_below HR0_0.out HB.out) | (with_reducible refine Kd.C_alloc ?_ _) | (with_reducible refine Kd.C_drewN ?_ _) | (with_reducible refine Kd.C_drew ?_))); (case side2 => exact HC0_0.out); (case side3 => repeat (first | exact (Kd.C_below HR0_1.out HB.out) | (with_reducible refine Kd.C_alloc ?_ _) | (with_reducible refine Kd.C_drewN ?_ _) | (with_reducible refine Kd.C_drew ?_))); (case side4 => exact HC0_1.out); rintro e w25 ⟨rfl, hb⟩; refine ⟨_, rfl, ?_⟩; have n0_ := aM (blk_below (bX BK224.out) hb); have n1_ := aM (blk_below (bX BK227.out) hb); have n2_ := aM (below_step (by repeat (first | (with_reducible first | exact HB.out | apply lA | apply lN | apply lD | refine lS ?_ GE224.out | refine lS ?_ GE227.out) | exact HB.out)) hb); clear BK224; clear BK227; clear HB; have BK224 := n0_; have BK227 := n1_; have HB := n2_; clear n0_ n1_ n2_; (try clear hb); (try clear hb2); (try clear hk); (try clear hi); obtain ⟨hcz26_0, hcz26_1, hcz26_2, hcz26_3, hcz26_4, hcz26_5, hcz26_6, hcz26_7, hcz26_8, hcz26_9, hcz26_10, hcz26_11, hcz26_12⟩ := blkC13 BK227.out; obtain ⟨hfz26_0, hfz26_1, hfz26_2, hfz26_3, hfz26_4, hfz26_5, hfz26_6, hfz26_7, hfz26_8, hfz26_9, hfz26_10, hfz26_11, hfz26_12⟩ := blkF13 BK227.out))
        go_ret
        exact ⟨by first | rfl | (simp [errW_none, errW_some] <;> rfl) | (simp [*, errW_none, errW_some] <;> rfl), by repeat (first | (with_reducible first | exact HB.out | apply lA | apply lN | apply lD | refine lS ?_ GE224.out | refine lS ?_ GE227.out) | exact HB.out)⟩
       ·rw [if_neg c16] at H
        have c16b0 : (((rd_T48 l0_0 a1).f5.f4.f1) == 0) = false := beq_eq_false_iff_ne.mpr c16
        have c16b1 : (((rd_T48 l0_0 a1).f5.f4.f1) != 0) = true := bne_iff_ne.mpr c16
        by_cases c27 : ((rd_T48 l0_0 a1).f5.f4.f1) = 1
        ·rw [if_pos c27] at H
         have c27b0 : (((rd_T48 l0_0 a1).f5.f4.f1) == 1) = true := beq_iff_eq.mpr c27
         have c27b1 : (((rd_T48 l0_0 a1).f5.f4.f1) != 1) = false := bne_eq_false_iff_eq.mpr c27
         clear c27
         obtain rfl := Option.some.inj H
         obtain ⟨hcz28_0, hcz28_1⟩ := blkC2 BK224.out
         obtain ⟨hfz28_0, hfz28_1⟩ := blkF2 BK224.out
         have p226 : 0 ≤ (a1 : Int) := of_decide_eq_true (by assumption)
         have q226 : a1 < (l0_0.length : Int) := of_decide_eq_true (by assumption)
         obtain ⟨ad226, e226, hx226_0, hx226_1, hx226_2, hx226_3, hx226_4, hx226_5, hx226_6, hx226_7, hx226_8, hx226_9, hx226_10, hx226_11, hx226_12⟩ := at_T48 HR0_0.out a1 p226 q226
         cases e226
         replace hx226_0 := (HB.out.cell (wB w _ hx226_0)).trans hx226_0
         replace hx226_1 := (HB.out.cell (wB w _ hx226_1)).trans hx226_1
         replace hx226_2 := (HB.out.cell (wB w _ hx226_2)).trans hx226_2
         replace hx226_3 := (HB.out.cell (wB w _ hx226_3)).trans hx226_3
         replace hx226_4 := (HB.out.cell (wB w _ hx226_4)).trans hx226_4
         replace hx226_5 := (HB.out.cell (wB w _ hx226_5)).trans hx226_5
         replace hx226_6 := (HB.out.cell (wB w _ hx226_6)).trans hx226_6
         replace hx226_7 := (HB.out.cell (wB w _ hx226_7)).trans hx226_7
         replace hx226_8 := (HB.out.cell (wB w _ hx226_8)).trans hx226_8
         replace hx226_9 := (HB.out.cell (wB w _ hx226_9)).trans hx226_9
         replace hx226_10 := (HB.out.cell (wB w _ hx226_10)).trans hx226_10
         replace hx226_11 := (HB.out.cell (wB w _ hx226_11)).trans hx226_11
         replace hx226_12 := (HB.out.cell (wB w _ hx226_12)).trans hx226_12
         replace p226 := eq_true p226
         replace q226 := eq_true q226
         go_wp2_with (first | ((with_reducible refine gate_dst (N := 5) rfl ?_); (try (refine gate_guard (by rfl) ?_; dsimp only)); refine box_event ?hg (N := 5) ?hd (cs := #[.int .i64 0, .int .i64 0, .int .i64 0, .string (⟨#[]⟩ : ByteArray), .string (⟨#[]⟩ : ByteArray), .bool false, .int .i64 0, .int .i64 0, .int .i64 0, .int .i64 0, .int .i64 0, .int .i64 0, .int .i64 0]) (t := 48) ?hr ?_; (case hd => rfl); (case hg => rfl); (case hr => first | (go_simp; done) | (go_simp; rfl)); intro gb227 hg w29 hbox hb; have n0_ := aM (blk_below (bX BK224.out) hb); have n1_ := aM (below_step (by repeat (first | (with_reducible first | exact HB.out | apply lA | apply lN | apply lD | refine lS ?_ GE224.out) | exact HB.out)) hb); have n2_ := aM (hbox); have n3_ := aM ((by rw [hg]; exact (below_size (by repeat (first | (with_reducible first | exact HB.out | apply lA | apply lN | apply lD | refine lS ?_ GE224.out) | exact HB.out))) : w.heap.size ≤ gb227)); have n4_ := aM ((by rw [hg]; exact (below_size (by repeat (first | (with_reducible first | exact HB.out | apply lA | apply lN | apply lD | refine lS ?_ GE224.out) | exact HB.out))) : w.heap.size ≤ gb227)); have n5_ := aM ((by rw [hg]; exact Nat.ne_of_lt (blk_lt (bX BK224.out)) : gb224 ≠ gb227)); have n6_ := aM ((by rw [hg]; exact Nat.ne_of_gt (blk_lt (bX BK224.out)) : gb227 ≠ gb224)); clear BK224; clear HB; have BK224 := n0_; have HB := n1_; have BK227 := n2_; have GW227 := n3_; have GE227 := n4_; have NB224_227 := n5_; have NB227_224 := n6_; clear n0_ n1_ n2_ n3_ n4_ n5_ n6_; clear hb hbox hg; have hnb30 := NB227_224.out; have hnc30 := NB224_227.out; obtain ⟨hcz31_0, hcz31_1, hcz31_2, hcz31_3, hcz31_4, hcz31_5, hcz31_6, hcz31_7, hcz31_8, hcz31_9, hcz31_10, hcz31_11, hcz31_12⟩ := blkC13 BK227.out; obtain ⟨hfz31_0, hfz31_1, hfz31_2, hfz31_3, hfz31_4, hfz31_5, hfz31_6, hfz31_7, hfz31_8, hfz31_9, hfz31_10, hfz31_11, hfz31_12⟩ := blkF13 BK227.out) | ((with_reducible refine gate_callee (f := 20) rfl ?_); refine goesL_ (some 38) rfl rfl Try.func20 (by kernel_rfl) rfl #[.agg #[.bool ((rd_T48 l0_0 a1).f5.f0), .int .i64 ((rd_T48 l0_0 a1).f5.f1), .int .i64 ((rd_T48 l0_0 a1).f5.f2), .int .i64 ((rd_T48 l0_0 a1).f5.f3.f0), .int .i64 ((rd_T48 l0_0 a1).f5.f3.f1), .int .i64 ((rd_T48 l0_0 a1).f5.f3.f2), .int .i64 ((rd_T48 l0_0 a1).f5.f4.f0), .int .i64 ((rd_T48 l0_0 a1).f5.f4.f1)]] rfl (by (try simp only [List.map_toArray, List.map_cons, List.map_nil]); first | done | rfl | (simp only [List.length_drop, List.length_take]; rfl)) ?_; (with_reducible refine (den_clock.calls kj2 ((rd_T48 l0_0 a1).f5.f0) ((rd_T48 l0_0 a1).f5.f1) ((rd_T48 l0_0 a1).f5.f2) ((rd_T48 l0_0 a1).f5.f3.f0) ((rd_T48 l0_0 a1).f5.f3.f1) ((rd_T48 l0_0 a1).f5.f3.f2) ((rd_T48 l0_0 a1).f5.f4.f0) ((rd_T48 l0_0 a1).f5.f4.f1) t228 true _ A14.out).mono ?_); rintro e w32 ⟨rfl, hb⟩; refine ⟨_, rfl, ?_⟩; have n0_ := aM (blk_below (g := gb224) (o := .cells #[.slice (some ad226) l0_0.length c0_0, .slice A0_1 l0_1.length c0_1] 33 (0, 0)) (by (with_reducible repeat first | apply bN | apply bD | apply bA); refine blk_far ?_ NB224_227.out _; (with_reducible repeat first | apply bN | apply bD | apply bA); refine blk_far ?_ NB224_227.out _; (with_reducible repeat first | apply bN | apply bD | apply bA); refine blk_far ?_ NB224_227.out _; (with_reducible repeat first | apply bN | apply bD | apply bA); refine blk_far ?_ NB224_227.out _; (with_reducible repeat first | apply bN | apply bD | apply bA); refine blk_far ?_ NB224_227.out _; (with_reducible repeat first | apply bN | apply bD | apply bA); refine blk_far ?_ NB224_227.out _; (with_reducible repeat first | apply bN | apply bD | apply bA); refine blk_far ?_ NB224_227.out _; (with_reducible repeat first | apply bN | apply bD | apply bA); refine blk_far ?_ NB224_227.out _; (with_reducible repeat first | apply bN | apply bD | apply bA); refine blk_far ?_ NB224_227.out _; (with_reducible repeat first | apply bN | apply bD | apply bA); refine blk_far ?_ NB224_227.out _; (with_reducible repeat first | apply bN | apply bD | apply bA); refine blk_far ?_ NB224_227.out _; (with_reducible repeat first | apply bN | apply bD | apply bA); refine blk_far ?_ NB224_227.out _; (with_reducible repeat first | apply bN | apply bD | apply bA); refine blk_far ?_ NB224_227.out _; (with_reducible repeat first | apply bN | apply bD | apply bA); exact BK224.out) hb); have n1_ := aM (blk_below (g := gb227) (o := .cells #[.int .i64 ((rd_T48 l0_0 a1).f0), .int .i64 ((rd_T48 l0_0 a1).f1), .int .i64 ((rd_T48 l0_0 a1).f2), .string ((rd_T48 l0_0 a1).f3), .string ((rd_T48 l0_0 a1).f4), .bool ((rd_T48 l0_0 a1).f5.f0), .int .i64 ((rd_T48 l0_0 a1).f5.f1), .int .i64 ((rd_T48 l0_0 a1).f5.f2), .int .i64 ((rd_T48 l0_0 a1).f5.f3.f0), .int .i64 ((rd_T48 l0_0 a1).f5.f3.f1), .int .i64 ((rd_T48 l0_0 a1).f5.f3.f2), .int .i64 ((rd_T48 l0_0 a1).f5.f4.f0), .int .i64 ((rd_T48 l0_0 a1).f5.f4.f1)] 48 (0, 0)) (by (with_reducible repeat first | apply bN | apply bD | apply bA); refine blk_put (cs := #[.int .i64 ((rd_T48 l0_0 a1).f0), .int .i64 ((rd_T48 l0_0 a1).f1), .int .i64 ((rd_T48 l0_0 a1).f2), .string ((rd_T48 l0_0 a1).f3), .string ((rd_T48 l0_0 a1).f4), .bool ((rd_T48 l0_0 a1).f5.f0), .int .i64 ((rd_T48 l0_0 a1).f5.f1), .int .i64 ((rd_T48 l0_0 a1).f5.f2), .int .i64 ((rd_T48 l0_0 a1).f5.f3.f0), .int .i64 ((rd_T48 l0_0 a1).f5.f3.f1), .int .i64 ((rd_T48 l0_0 a1).f5.f3.f2), .int .i64 ((rd_T48 l0_0 a1).f5.f4.f0), .int .i64 0]) ?_ 12 _ rfl; (with_reducible repeat first | apply bN | apply bD | apply bA); refine blk_put (cs := #[.int .i64 ((rd_T48 l0_0 a1).f0), .int .i64 ((rd_T48 l0_0 a1).f1), .int .i64 ((rd_T48 l0_0 a1).f2), .string ((rd_T48 l0_0 a1).f3), .string ((rd_T48 l0_0 a1).f4), .bool ((rd_T48 l0_0 a1).f5.f0), .int .i64 ((rd_T48 l0_0 a1).f5.f1), .int .i64 ((rd_T48 l0_0 a1).f5.f2), .int .i64 ((rd_T48 l0_0 a1).f5.f3.f0), .int .i64 ((rd_T48 l0_0 a1).f5.f3.f1), .int .i64 ((rd_T48 l0_0 a1).f5.f3.f2), .int .i64 0, .int .i64 0]) ?_ 11 _ rfl; (with_reducible repeat first | apply bN | apply bD | apply bA); refine blk_put (cs := #[.int .i64 ((rd_T48 l0_0 a1).f0), .int .i64 ((rd_T48 l0_0 a1).f1), .int .i64 ((rd_T48 l0_0 a1).f2), .string ((rd_T48 l0_0 a1).f3), .string ((rd_T48 l0_0 a1).f4), .bool ((rd_T48 l0_0 a1).f5.f0), .int .i64 ((rd_T48 l0_0 a1).f5.f1), .int .i64 ((rd_T48 l0_0 a1).f5.f2), .int .i64 ((rd_T48 l0_0 a1).f5.f3.f0), .int .i64 ((rd_T48 l0_0 a1).f5.f3.f1), .int .i64 0, .int .i64 0, .int .i64 0]) ?_ 10 _ rfl; (with_reducible repeat first | apply bN | apply bD | apply bA); refine blk_put (cs := #[.int .i64 ((rd_T48 l0_0 a1).f0), .int .i64 ((rd_T48 l0_0 a1).f1), .int .i64 ((rd_T48 l0_0 a1).f2), .string ((rd_T48 l0_0 a1).f3), .string ((rd_T48 l0_0 a1).f4), .bool ((rd_T48 l0_0 a1).f5.f0), .int .i64 ((rd_T48 l0_0 a1).f5.f1), .int .i64 ((rd_T48 l0_0 a1).f5.f2), .int .i64 ((rd_T48 l0_0 a1).f5.f3.f0), .int .i64 0, .int .i64 0, .int .i64 0, .int .i64 0]) ?_ 9 _ rfl; (with_reducible repeat first | apply bN | apply bD | apply bA); refine blk_put (cs := #[.int .i64 ((rd_T48 l0_0 a1).f0), .int .i64 ((rd_T48 l0_0 a1).f1), .int .i64 ((rd_T48 l0_0 a1).f2), .string ((rd_T48 l0_0 a1).f3), .string ((rd_T48 l0_0 a1).f4), .bool ((rd_T48 l0_0 a1).f5.f0), .int .i64 ((rd_T48 l0_0 a1).f5.f1), .int .i64 ((rd_T48 l0_0 a1).f5.f2), .int .i64 0, .int .i64 0, .int .i64 0, .int .i64 0, .int .i64 0]) ?_ 8 _ rfl; (with_reducible repeat first | apply bN | apply bD | apply bA); refine blk_put (cs := #[.int .i64 ((rd_T48 l0_0 a1).f0), .int .i64 ((rd_T48 l0_0 a1).f1), .int .i64 ((rd_T48 l0_0 a1).f2), .string ((rd_T48 l0_0 a1).f3), .string ((rd_T48 l0_0 a1).f4), .bool ((rd_T48 l0_0 a1).f5.f0), .int .i64 ((rd_T48 l0_0 a1).f5.f1), .int .i64 0, .int .i64 0, .int .i64 0, .int .i64 0, .int .i64 0, .int .i64 0]) ?_ 7 _ rfl; (with_reducible repeat first | apply bN | apply bD | apply bA); refine blk_put (cs := #[.int .i64 ((rd_T48 l0_0 a1).f0), .int .i64 ((rd_T48 l0_0 a1).f1), .int .i64 ((rd_T48 l0_0 a1).f2), .string ((rd_T48 l0_0 a1).f3), .string ((rd_T48 l0_0 a1).f4), .bool ((rd_T48 l0_0 a1).f5.f0), .int .i64 0, .int .i64 0, .int .i64 0, .int .i64 0, .int .i64 0, .int .i64 0, .int .i64 0]) ?_ 6 _ rfl; (with_reducible repeat first | apply bN | apply bD | apply bA); refine blk_put (cs := #[.int .i64 ((rd_T48 l0_0 a1).f0), .int .i64 ((rd_T48 l0_0 a1).f1), .int .i64 ((rd_T48 l0_0 a1).f2), .string ((rd_T48 l0_0 a1).f3), .string ((rd_T48 l0_0 a1).f4), .bool false, .int .i64 0, .int .i64 0, .int .i64 0, .int .i64 0, .int .i64 0, .int .i64 0, .int .i64 0]) ?_ 5 _ rfl; (with_reducible repeat first | apply bN | apply bD | apply bA); refine blk_put (cs := #[.int .i64 ((rd_T48 l0_0 a1).f0), .int .i64 ((rd_T48 l0_0 a1).f1), .int .i64 ((rd_T48 l0_0 a1).f2), .string ((rd_T48 l0_0 a1).f3), .string (⟨#[]⟩ : ByteArray), .bool false, .int .i64 0, .int .i64 0, .int .i64 0, .int .i64 0, .int .i64 0, .int .i64 0, .int .i64 0]) ?_ 4 _ rfl; (with_reducible repeat first | apply bN | apply bD | apply bA); refine blk_put (cs := #[.int .i64 ((rd_T48 l0_0 a1).f0), .int .i64 ((rd_T48 l0_0 a1).f1), .int .i64 ((rd_T48 l0_0 a1).f2), .string (⟨#[]⟩ : ByteArray), .string (⟨#[]⟩ : ByteArray), .bool false, .int .i64 0, .int .i64 0, .int .i64 0, .int .i64 0, .int .i64 0, .int .i64 0, .int .i64 0]) ?_ 3 _ rfl; (with_reducible repeat first | apply bN | apply bD | apply bA); refine blk_put (cs := #[.int .i64 ((rd_T48 l0_0 a1).f0), .int .i64 ((rd_T48 l0_0 a1).f1), .int .i64 0, .string (⟨#[]⟩ : ByteArray), .string (⟨#[]⟩ : ByteArray), .bool false, .int .i64 0, .int .i64 0, .int .i64 0, .int .i64 0, .int .i64 0, .int .i64 0, .int .i64 0]) ?_ 2 _ rfl; (with_reducible repeat first | apply bN | apply bD | apply bA); refine blk_put (cs := #[.int .i64 ((rd_T48 l0_0 a1).f0), .int .i64 0, .int .i64 0, .string (⟨#[]⟩ : ByteArray), .string (⟨#[]⟩ : ByteArray), .bool false, .int .i64 0, .int .i64 0, .int .i64 0, .int .i64 0, .int .i64 0, .int .i64 0, .int .i64 0]) ?_ 1 _ rfl; (with_reducible repeat first | apply bN | apply bD | apply bA); refine blk_put (cs := #[.int .i64 0, .int .i64 0, .int .i64 0, .string (⟨#[]⟩ : ByteArray), .string (⟨#[]⟩ : ByteArray), .bool false, .int .i64 0, .int .i64 0, .int .i64 0, .int .i64 0, .int .i64 0, .int .i64 0, .int .i64 0]) ?_ 0 _ rfl; (with_reducible repeat first | apply bN | apply bD | apply bA); exact BK227.out) hb); have n2_ := aM (below_step (by repeat (first | (with_reducible first | exact HB.out | apply lA | apply lN | apply lD | refine lS ?_ GE224.out | refine lS ?_ GE227.out) | exact HB.out)) hb); clear BK224; clear BK227; clear HB; have BK224 := n0_; have BK227 := n1_; have HB := n2_; clear n0_ n1_ n2_; (try clear hb); (try clear hb2); (try clear hk); (try clear hi); obtain ⟨hcz33_0, hcz33_1, hcz33_2, hcz33_3, hcz33_4, hcz33_5, hcz33_6, hcz33_7, hcz33_8, hcz33_9, hcz33_10, hcz33_11, hcz33_12⟩ := blkC13 BK227.out; obtain ⟨hfz33_0, hfz33_1, hfz33_2, hfz33_3, hfz33_4, hfz33_5, hfz33_6, hfz33_7, hfz33_8, hfz33_9, hfz33_10, hfz33_11, hfz33_12⟩ := blkF13 BK227.out))
         go_ret
         exact ⟨by first | rfl | (simp [errW_none, errW_some] <;> rfl) | (simp [*, errW_none, errW_some] <;> rfl), by repeat (first | (with_reducible first | exact HB.out | apply lA | apply lN | apply lD | refine lS ?_ GE224.out | refine lS ?_ GE227.out) | exact HB.out)⟩
        ·rw [if_neg c27] at H
         have c27b0 : (((rd_T48 l0_0 a1).f5.f4.f1) == 1) = false := beq_eq_false_iff_ne.mpr c27
         have c27b1 : (((rd_T48 l0_0 a1).f5.f4.f1) != 1) = true := bne_iff_ne.mpr c27
         obtain rfl := Option.some.inj H
         obtain ⟨hcz34_0, hcz34_1⟩ := blkC2 BK224.out
         obtain ⟨hfz34_0, hfz34_1⟩ := blkF2 BK224.out
         have p226 : 0 ≤ (a1 : Int) := of_decide_eq_true (by assumption)
         have q226 : a1 < (l0_0.length : Int) := of_decide_eq_true (by assumption)
         obtain ⟨ad226, e226, hx226_0, hx226_1, hx226_2, hx226_3, hx226_4, hx226_5, hx226_6, hx226_7, hx226_8, hx226_9, hx226_10, hx226_11, hx226_12⟩ := at_T48 HR0_0.out a1 p226 q226
         cases e226
         replace hx226_0 := (HB.out.cell (wB w _ hx226_0)).trans hx226_0
         replace hx226_1 := (HB.out.cell (wB w _ hx226_1)).trans hx226_1
         replace hx226_2 := (HB.out.cell (wB w _ hx226_2)).trans hx226_2
         replace hx226_3 := (HB.out.cell (wB w _ hx226_3)).trans hx226_3
         replace hx226_4 := (HB.out.cell (wB w _ hx226_4)).trans hx226_4
         replace hx226_5 := (HB.out.cell (wB w _ hx226_5)).trans hx226_5
         replace hx226_6 := (HB.out.cell (wB w _ hx226_6)).trans hx226_6
         replace hx226_7 := (HB.out.cell (wB w _ hx226_7)).trans hx226_7
         replace hx226_8 := (HB.out.cell (wB w _ hx226_8)).trans hx226_8
         replace hx226_9 := (HB.out.cell (wB w _ hx226_9)).trans hx226_9
         replace hx226_10 := (HB.out.cell (wB w _ hx226_10)).trans hx226_10
         replace hx226_11 := (HB.out.cell (wB w _ hx226_11)).trans hx226_11
         replace hx226_12 := (HB.out.cell (wB w _ hx226_12)).trans hx226_12
         replace p226 := eq_true p226
         replace q226 := eq_true q226
         go_wp2_with (first | ((with_reducible refine gate_dst (N := 5) rfl ?_); (try (refine gate_guard (by rfl) ?_; dsimp only)); refine box_event ?hg (N := 5) ?hd (cs := #[.int .i64 0, .int .i64 0, .int .i64 0, .string (⟨#[]⟩ : ByteArray), .string (⟨#[]⟩ : ByteArray), .bool false, .int .i64 0, .int .i64 0, .int .i64 0, .int .i64 0, .int .i64 0, .int .i64 0, .int .i64 0]) (t := 48) ?hr ?_; (case hd => rfl); (case hg => rfl); (case hr => first | (go_simp; done) | (go_simp; rfl)); intro gb227 hg w35 hbox hb; have n0_ := aM (blk_below (bX BK224.out) hb); have n1_ := aM (below_step (by repeat (first | (with_reducible first | exact HB.out | apply lA | apply lN | apply lD | refine lS ?_ GE224.out) | exact HB.out)) hb); have n2_ := aM (hbox); have n3_ := aM ((by rw [hg]; exact (below_size (by repeat (first | (with_reducible first | exact HB.out | apply lA | apply lN | apply lD | refine lS ?_ GE224.out) | exact HB.out))) : w.heap.size ≤ gb227)); have n4_ := aM ((by rw [hg]; exact (below_size (by repeat (first | (with_reducible first | exact HB.out | apply lA | apply lN | apply lD | refine lS ?_ GE224.out) | exact HB.out))) : w.heap.size ≤ gb227)); have n5_ := aM ((by rw [hg]; exact Nat.ne_of_lt (blk_lt (bX BK224.out)) : gb224 ≠ gb227)); have n6_ := aM ((by rw [hg]; exact Nat.ne_of_gt (blk_lt (bX BK224.out)) : gb227 ≠ gb224)); clear BK224; clear HB; have BK224 := n0_; have HB := n1_; have BK227 := n2_; have GW227 := n3_; have GE227 := n4_; have NB224_227 := n5_; have NB227_224 := n6_; clear n0_ n1_ n2_ n3_ n4_ n5_ n6_; clear hb hbox hg; have hnb36 := NB227_224.out; have hnc36 := NB224_227.out; obtain ⟨hcz37_0, hcz37_1, hcz37_2, hcz37_3, hcz37_4, hcz37_5, hcz37_6, hcz37_7, hcz37_8, hcz37_9, hcz37_10, hcz37_11, hcz37_12⟩ := blkC13 BK227.out; obtain ⟨hfz37_0, hfz37_1, hfz37_2, hfz37_3, hfz37_4, hfz37_5, hfz37_6, hfz37_7, hfz37_8, hfz37_9, hfz37_10, hfz37_11, hfz37_12⟩ := blkF13 BK227.out) | ((with_reducible refine gate_callee (f := 20) rfl ?_); refine goesL_ (some 38) rfl rfl Try.func20 (by kernel_rfl) rfl #[.agg #[.bool ((rd_T48 l0_0 a1).f5.f0), .int .i64 ((rd_T48 l0_0 a1).f5.f1), .int .i64 ((rd_T48 l0_0 a1).f5.f2), .int .i64 ((rd_T48 l0_0 a1).f5.f3.f0), .int .i64 ((rd_T48 l0_0 a1).f5.f3.f1), .int .i64 ((rd_T48 l0_0 a1).f5.f3.f2), .int .i64 ((rd_T48 l0_0 a1).f5.f4.f0), .int .i64 ((rd_T48 l0_0 a1).f5.f4.f1)]] rfl (by (try simp only [List.map_toArray, List.map_cons, List.map_nil]); first | done | rfl | (simp only [List.length_drop, List.length_take]; rfl)) ?_; (with_reducible refine (den_clock.calls kj2 ((rd_T48 l0_0 a1).f5.f0) ((rd_T48 l0_0 a1).f5.f1) ((rd_T48 l0_0 a1).f5.f2) ((rd_T48 l0_0 a1).f5.f3.f0) ((rd_T48 l0_0 a1).f5.f3.f1) ((rd_T48 l0_0 a1).f5.f3.f2) ((rd_T48 l0_0 a1).f5.f4.f0) ((rd_T48 l0_0 a1).f5.f4.f1) t228 true _ A14.out).mono ?_); rintro e w38 ⟨rfl, hb⟩; refine ⟨_, rfl, ?_⟩; have n0_ := aM (blk_below (g := gb224) (o := .cells #[.slice (some ad226) l0_0.length c0_0, .slice A0_1 l0_1.length c0_1] 33 (0, 0)) (by (with_reducible repeat first | apply bN | apply bD | apply bA); refine blk_far ?_ NB224_227.out _; (with_reducible repeat first | apply bN | apply bD | apply bA); refine blk_far ?_ NB224_227.out _; (with_reducible repeat first | apply bN | apply bD | apply bA); refine blk_far ?_ NB224_227.out _; (with_reducible repeat first | apply bN | apply bD | apply bA); refine blk_far ?_ NB224_227.out _; (with_reducible repeat first | apply bN | apply bD | apply bA); refine blk_far ?_ NB224_227.out _; (with_reducible repeat first | apply bN | apply bD | apply bA); refine blk_far ?_ NB224_227.out _; (with_reducible repeat first | apply bN | apply bD | apply bA); refine blk_far ?_ NB224_227.out _; (with_reducible repeat first | apply bN | apply bD | apply bA); refine blk_far ?_ NB224_227.out _; (with_reducible repeat first | apply bN | apply bD | apply bA); refine blk_far ?_ NB224_227.out _; (with_reducible repeat first | apply bN | apply bD | apply bA); refine blk_far ?_ NB224_227.out _; (with_reducible repeat first | apply bN | apply bD | apply bA); refine blk_far ?_ NB224_227.out _; (with_reducible repeat first | apply bN | apply bD | apply bA); refine blk_far ?_ NB224_227.out _; (with_reducible repeat first | apply bN | apply bD | apply bA); refine blk_far ?_ NB224_227.out _; (with_reducible repeat first | apply bN | apply bD | apply bA); exact BK224.out) hb); have n1_ := aM (blk_below (g := gb227) (o := .cells #[.int .i64 ((rd_T48 l0_0 a1).f0), .int .i64 ((rd_T48 l0_0 a1).f1), .int .i64 ((rd_T48 l0_0 a1).f2), .string ((rd_T48 l0_0 a1).f3), .string ((rd_T48 l0_0 a1).f4), .bool ((rd_T48 l0_0 a1).f5.f0), .int .i64 ((rd_T48 l0_0 a1).f5.f1), .int .i64 ((rd_T48 l0_0 a1).f5.f2), .int .i64 ((rd_T48 l0_0 a1).f5.f3.f0), .int .i64 ((rd_T48 l0_0 a1).f5.f3.f1), .int .i64 ((rd_T48 l0_0 a1).f5.f3.f2), .int .i64 ((rd_T48 l0_0 a1).f5.f4.f0), .int .i64 ((rd_T48 l0_0 a1).f5.f4.f1)] 48 (0, 0)) (by (with_reducible repeat first | apply bN | apply bD | apply bA); refine blk_put (cs := #[.int .i64 ((rd_T48 l0_0 a1).f0), .int .i64 ((rd_T48 l0_0 a1).f1), .int .i64 ((rd_T48 l0_0 a1).f2), .string ((rd_T48 l0_0 a1).f3), .string ((rd_T48 l0_0 a1).f4), .bool ((rd_T48 l0_0 a1).f5.f0), .int .i64 ((rd_T48 l0_0 a1).f5.f1), .int .i64 ((rd_T48 l0_0 a1).f5.f2), .int .i64 ((rd_T48 l0_0 a1).f5.f3.f0), .int .i64 ((rd_T48 l0_0 a1).f5.f3.f1), .int .i64 ((rd_T48 l0_0 a1).f5.f3.f2), .int .i64 ((rd_T48 l0_0 a1).f5.f4.f0), .int .i64 0]) ?_ 12 _ rfl; (with_reducible repeat first | apply bN | apply bD | apply bA); refine blk_put (cs := #[.int .i64 ((rd_T48 l0_0 a1).f0), .int .i64 ((rd_T48 l0_0 a1).f1), .int .i64 ((rd_T48 l0_0 a1).f2), .string ((rd_T48 l0_0 a1).f3), .string ((rd_T48 l0_0 a1).f4), .bool ((rd_T48 l0_0 a1).f5.f0), .int .i64 ((rd_T48 l0_0 a1).f5.f1), .int .i64 ((rd_T48 l0_0 a1).f5.f2), .int .i64 ((rd_T48 l0_0 a1).f5.f3.f0), .int .i64 ((rd_T48 l0_0 a1).f5.f3.f1), .int .i64 ((rd_T48 l0_0 a1).f5.f3.f2), .int .i64 0, .int .i64 0]) ?_ 11 _ rfl; (with_reducible repeat first | apply bN | apply bD | apply bA); refine blk_put (cs := #[.int .i64 ((rd_T48 l0_0 a1).f0), .int .i64 ((rd_T48 l0_0 a1).f1), .int .i64 ((rd_T48 l0_0 a1).f2), .string ((rd_T48 l0_0 a1).f3), .string ((rd_T48 l0_0 a1).f4), .bool ((rd_T48 l0_0 a1).f5.f0), .int .i64 ((rd_T48 l0_0 a1).f5.f1), .int .i64 ((rd_T48 l0_0 a1).f5.f2), .int .i64 ((rd_T48 l0_0 a1).f5.f3.f0), .int .i64 ((rd_T48 l0_0 a1).f5.f3.f1), .int .i64 0, .int .i64 0, .int .i64 0]) ?_ 10 _ rfl; (with_reducible repeat first | apply bN | apply bD | apply bA); refine blk_put (cs := #[.int .i64 ((rd_T48 l0_0 a1).f0), .int .i64 ((rd_T48 l0_0 a1).f1), .int .i64 ((rd_T48 l0_0 a1).f2), .string ((rd_T48 l0_0 a1).f3), .string ((rd_T48 l0_0 a1).f4), .bool ((rd_T48 l0_0 a1).f5.f0), .int .i64 ((rd_T48 l0_0 a1).f5.f1), .int .i64 ((rd_T48 l0_0 a1).f5.f2), .int .i64 ((rd_T48 l0_0 a1).f5.f3.f0), .int .i64 0, .int .i64 0, .int .i64 0, .int .i64 0]) ?_ 9 _ rfl; (with_reducible repeat first | apply bN | apply bD | apply bA); refine blk_put (cs := #[.int .i64 ((rd_T48 l0_0 a1).f0), .int .i64 ((rd_T48 l0_0 a1).f1), .int .i64 ((rd_T48 l0_0 a1).f2), .string ((rd_T48 l0_0 a1).f3), .string ((rd_T48 l0_0 a1).f4), .bool ((rd_T48 l0_0 a1).f5.f0), .int .i64 ((rd_T48 l0_0 a1).f5.f1), .int .i64 ((rd_T48 l0_0 a1).f5.f2), .int .i64 0, .int .i64 0, .int .i64 0, .int .i64 0, .int .i64 0]) ?_ 8 _ rfl; (with_reducible repeat first | apply bN | apply bD | apply bA); refine blk_put (cs := #[.int .i64 ((rd_T48 l0_0 a1).f0), .int .i64 ((rd_T48 l0_0 a1).f1), .int .i64 ((rd_T48 l0_0 a1).f2), .string ((rd_T48 l0_0 a1).f3), .string ((rd_T48 l0_0 a1).f4), .bool ((rd_T48 l0_0 a1).f5.f0), .int .i64 ((rd_T48 l0_0 a1).f5.f1), .int .i64 0, .int .i64 0, .int .i64 0, .int .i64 0, .int .i64 0, .int .i64 0]) ?_ 7 _ rfl; (with_reducible repeat first | apply bN | apply bD | apply bA); refine blk_put (cs := #[.int .i64 ((rd_T48 l0_0 a1).f0), .int .i64 ((rd_T48 l0_0 a1).f1), .int .i64 ((rd_T48 l0_0 a1).f2), .string ((rd_T48 l0_0 a1).f3), .string ((rd_T48 l0_0 a1).f4), .bool ((rd_T48 l0_0 a1).f5.f0), .int .i64 0, .int .i64 0, .int .i64 0, .int .i64 0, .int .i64 0, .int .i64 0, .int .i64 0]) ?_ 6 _ rfl; (with_reducible repeat first | apply bN | apply bD | apply bA); refine blk_put (cs := #[.int .i64 ((rd_T48 l0_0 a1).f0), .int .i64 ((rd_T48 l0_0 a1).f1), .int .i64 ((rd_T48 l0_0 a1).f2), .string ((rd_T48 l0_0 a1).f3), .string ((rd_T48 l0_0 a1).f4), .bool false, .int .i64 0, .int .i64 0, .int .i64 0, .int .i64 0, .int .i64 0, .int .i64 0, .int .i64 0]) ?_ 5 _ rfl; (with_reducible repeat first | apply bN | apply bD | apply bA); refine blk_put (cs := #[.int .i64 ((rd_T48 l0_0 a1).f0), .int .i64 ((rd_T48 l0_0 a1).f1), .int .i64 ((rd_T48 l0_0 a1).f2), .string ((rd_T48 l0_0 a1).f3), .string (⟨#[]⟩ : ByteArray), .bool false, .int .i64 0, .int .i64 0, .int .i64 0, .int .i64 0, .int .i64 0, .int .i64 0, .int .i64 0]) ?_ 4 _ rfl; (with_reducible repeat first | apply bN | apply bD | apply bA); refine blk_put (cs := #[.int .i64 ((rd_T48 l0_0 a1).f0), .int .i64 ((rd_T48 l0_0 a1).f1), .int .i64 ((rd_T48 l0_0 a1).f2), .string (⟨#[]⟩ : ByteArray), .string (⟨#[]⟩ : ByteArray), .bool false, .int .i64 0, .int .i64 0, .int .i64 0, .int .i64 0, .int .i64 0, .int .i64 0, .int .i64 0]) ?_ 3 _ rfl; (with_reducible repeat first | apply bN | apply bD | apply bA); refine blk_put (cs := #[.int .i64 ((rd_T48 l0_0 a1).f0), .int .i64 ((rd_T48 l0_0 a1).f1), .int .i64 0, .string (⟨#[]⟩ : ByteArray), .string (⟨#[]⟩ : ByteArray), .bool false, .int .i64 0, .int .i64 0, .int .i64 0, .int .i64 0, .int .i64 0, .int .i64 0, .int .i64 0]) ?_ 2 _ rfl; (with_reducible repeat first | apply bN | apply bD | apply bA); refine blk_put (cs := #[.int .i64 ((rd_T48 l0_0 a1).f0), .int .i64 0, .int .i64 0, .string (⟨#[]⟩ : ByteArray), .string (⟨#[]⟩ : ByteArray), .bool false, .int .i64 0, .int .i64 0, .int .i64 0, .int .i64 0, .int .i64 0, .int .i64 0, .int .i64 0]) ?_ 1 _ rfl; (with_reducible repeat first | apply bN | apply bD | apply bA); refine blk_put (cs := #[.int .i64 0, .int .i64 0, .int .i64 0, .string (⟨#[]⟩ : ByteArray), .string (⟨#[]⟩ : ByteArray), .bool false, .int .i64 0, .int .i64 0, .int .i64 0, .int .i64 0, .int .i64 0, .int .i64 0, .int .i64 0]) ?_ 0 _ rfl; (with_reducible repeat first | apply bN | apply bD | apply bA); exact BK227.out) hb); have n2_ := aM (below_step (by repeat (first | (with_reducible first | exact HB.out | apply lA | apply lN | apply lD | refine lS ?_ GE224.out | refine lS ?_ GE227.out) | exact HB.out)) hb); clear BK224; clear BK227; clear HB; have BK224 := n0_; have BK227 := n1_; have HB := n2_; clear n0_ n1_ n2_; (try clear hb); (try clear hb2); (try clear hk); (try clear hi); obtain ⟨hcz39_0, hcz39_1, hcz39_2, hcz39_3, hcz39_4, hcz39_5, hcz39_6, hcz39_7, hcz39_8, hcz39_9, hcz39_10, hcz39_11, hcz39_12⟩ := blkC13 BK227.out; obtain ⟨hfz39_0, hfz39_1, hfz39_2, hfz39_3, hfz39_4, hfz39_5, hfz39_6, hfz39_7, hfz39_8, hfz39_9, hfz39_10, hfz39_11, hfz39_12⟩ := blkF13 BK227.out))
         go_ret
         exact ⟨by first | rfl | (simp [errW_none, errW_some] <;> rfl) | (simp [*, errW_none, errW_some] <;> rfl), by repeat (first | (with_reducible first | exact HB.out | apply lA | apply lN | apply lD | refine lS ?_ GE224.out | refine lS ?_ GE227.out) | exact HB.out)⟩
      ·replace c15 := Bool.eq_false_iff.mpr c15
       subst c15
       have H1 : (some 0) = some r := by rw [if_neg (show ¬ (false = true) by decide)] at H; exact H
       clear H
       have H := H1
       clear H1
       obtain rfl := Option.some.inj H
       obtain ⟨hcz40_0, hcz40_1⟩ := blkC2 BK224.out
       obtain ⟨hfz40_0, hfz40_1⟩ := blkF2 BK224.out
       have p226 : 0 ≤ (a1 : Int) := of_decide_eq_true (by assumption)
       have q226 : a1 < (l0_0.length : Int) := of_decide_eq_true (by assumption)
       obtain ⟨ad226, e226, hx226_0, hx226_1, hx226_2, hx226_3, hx226_4, hx226_5, hx226_6, hx226_7, hx226_8, hx226_9, hx226_10, hx226_11, hx226_12⟩ := at_T48 HR0_0.out a1 p226 q226
       cases e226
       replace hx226_0 := (HB.out.cell (wB w _ hx226_0)).trans hx226_0
       replace hx226_1 := (HB.out.cell (wB w _ hx226_1)).trans hx226_1
       replace hx226_2 := (HB.out.cell (wB w _ hx226_2)).trans hx226_2
       replace hx226_3 := (HB.out.cell (wB w _ hx226_3)).trans hx226_3
       replace hx226_4 := (HB.out.cell (wB w _ hx226_4)).trans hx226_4
       replace hx226_5 := (HB.out.cell (wB w _ hx226_5)).trans hx226_5
       replace hx226_6 := (HB.out.cell (wB w _ hx226_6)).trans hx226_6
       replace hx226_7 := (HB.out.cell (wB w _ hx226_7)).trans hx226_7
       replace hx226_8 := (HB.out.cell (wB w _ hx226_8)).trans hx226_8
       replace hx226_9 := (HB.out.cell (wB w _ hx226_9)).trans hx226_9
       replace hx226_10 := (HB.out.cell (wB w _ hx226_10)).trans hx226_10
       replace hx226_11 := (HB.out.cell (wB w _ hx226_11)).trans hx226_11
       replace hx226_12 := (HB.out.cell (wB w _ hx226_12)).trans hx226_12
       replace p226 := eq_true p226
       replace q226 := eq_true q226
       go_wp2_with (first | ((with_reducible refine gate_dst (N := 5) rfl ?_); (try (refine gate_guard (by rfl) ?_; dsimp only)); refine box_event ?hg (N := 5) ?hd (cs := #[.int .i64 0, .int .i64 0, .int .i64 0, .string (⟨#[]⟩ : ByteArray), .string (⟨#[]⟩ : ByteArray), .bool false, .int .i64 0, .int .i64 0, .int .i64 0, .int .i64 0, .int .i64 0, .int .i64 0, .int .i64 0]) (t := 48) ?hr ?_; (case hd => rfl); (case hg => rfl); (case hr => first | (go_simp; done) | (go_simp; rfl)); intro gb227 hg w41 hbox hb; have n0_ := aM (blk_below (bX BK224.out) hb); have n1_ := aM (below_step (by repeat (first | (with_reducible first | exact HB.out | apply lA | apply lN | apply lD | refine lS ?_ GE224.out) | exact HB.out)) hb); have n2_ := aM (hbox); have n3_ := aM ((by rw [hg]; exact (below_size (by repeat (first | (with_reducible first | exact HB.out | apply lA | apply lN | apply lD | refine lS ?_ GE224.out) | exact HB.out))) : w.heap.size ≤ gb227)); have n4_ := aM ((by rw [hg]; exact (below_size (by repeat (first | (with_reducible first | exact HB.out | apply lA | apply lN | apply lD | refine lS ?_ GE224.out) | exact HB.out))) : w.heap.size ≤ gb227)); have n5_ := aM ((by rw [hg]; exact Nat.ne_of_lt (blk_lt (bX BK224.out)) : gb224 ≠ gb227)); have n6_ := aM ((by rw [hg]; exact Nat.ne_of_gt (blk_lt (bX BK224.out)) : gb227 ≠ gb224)); clear BK224; clear HB; have BK224 := n0_; have HB := n1_; have BK227 := n2_; have GW227 := n3_; have GE227 := n4_; have NB224_227 := n5_; have NB227_224 := n6_; clear n0_ n1_ n2_ n3_ n4_ n5_ n6_; clear hb hbox hg; have hnb42 := NB227_224.out; have hnc42 := NB224_227.out; obtain ⟨hcz43_0, hcz43_1, hcz43_2, hcz43_3, hcz43_4, hcz43_5, hcz43_6, hcz43_7, hcz43_8, hcz43_9, hcz43_10, hcz43_11, hcz43_12⟩ := blkC13 BK227.out; obtain ⟨hfz43_0, hfz43_1, hfz43_2, hfz43_3, hfz43_4, hfz43_5, hfz43_6, hfz43_7, hfz43_8, hfz43_9, hfz43_10, hfz43_11, hfz43_12⟩ := blkF13 BK227.out) | ((with_reducible refine gate_callee (f := 20) rfl ?_); refine goesL_ (some 38) rfl rfl Try.func20 (by kernel_rfl) rfl #[.agg #[.bool ((rd_T48 l0_0 a1).f5.f0), .int .i64 ((rd_T48 l0_0 a1).f5.f1), .int .i64 ((rd_T48 l0_0 a1).f5.f2), .int .i64 ((rd_T48 l0_0 a1).f5.f3.f0), .int .i64 ((rd_T48 l0_0 a1).f5.f3.f1), .int .i64 ((rd_T48 l0_0 a1).f5.f3.f2), .int .i64 ((rd_T48 l0_0 a1).f5.f4.f0), .int .i64 ((rd_T48 l0_0 a1).f5.f4.f1)]] rfl (by (try simp only [List.map_toArray, List.map_cons, List.map_nil]); first | done | rfl | (simp only [List.length_drop, List.length_take]; rfl)) ?_; (with_reducible refine (den_clock.calls kj2 ((rd_T48 l0_0 a1).f5.f0) ((rd_T48 l0_0 a1).f5.f1) ((rd_T48 l0_0 a1).f5.f2) ((rd_T48 l0_0 a1).f5.f3.f0) ((rd_T48 l0_0 a1).f5.f3.f1) ((rd_T48 l0_0 a1).f5.f3.f2) ((rd_T48 l0_0 a1).f5.f4.f0) ((rd_T48 l0_0 a1).f5.f4.f1) t228 false _ A14.out).mono ?_); rintro e w44 ⟨rfl, hb⟩; refine ⟨_, rfl, ?_⟩; have n0_ := aM (blk_below (g := gb224) (o := .cells #[.slice (some ad226) l0_0.length c0_0, .slice A0_1 l0_1.length c0_1] 33 (0, 0)) (by (with_reducible repeat first | apply bN | apply bD | apply bA); refine blk_far ?_ NB224_227.out _; (with_reducible repeat first | apply bN | apply bD | apply bA); refine blk_far ?_ NB224_227.out _; (with_reducible repeat first | apply bN | apply bD | apply bA); refine blk_far ?_ NB224_227.out _; (with_reducible repeat first | apply bN | apply bD | apply bA); refine blk_far ?_ NB224_227.out _; (with_reducible repeat first | apply bN | apply bD | apply bA); refine blk_far ?_ NB224_227.out _; (with_reducible repeat first | apply bN | apply bD | apply bA); refine blk_far ?_ NB224_227.out _; (with_reducible repeat first | apply bN | apply bD | apply bA); refine blk_far ?_ NB224_227.out _; (with_reducible repeat first | apply bN | apply bD | apply bA); refine blk_far ?_ NB224_227.out _; (with_reducible repeat first | apply bN | apply bD | apply bA); refine blk_far ?_ NB224_227.out _; (with_reducible repeat first | apply bN | apply bD | apply bA); refine blk_far ?_ NB224_227.out _; (with_reducible repeat first | apply bN | apply bD | apply bA); refine blk_far ?_ NB224_227.out _; (with_reducible repeat first | apply bN | apply bD | apply bA); refine blk_far ?_ NB224_227.out _; (with_reducible repeat first | apply bN | apply bD | apply bA); refine blk_far ?_ NB224_227.out _; (with_reducible repeat first | apply bN | apply bD | apply bA); exact BK224.out) hb); have n1_ := aM (blk_below (g := gb227) (o := .cells #[.int .i64 ((rd_T48 l0_0 a1).f0), .int .i64 ((rd_T48 l0_0 a1).f1), .int .i64 ((rd_T48 l0_0 a1).f2), .string ((rd_T48 l0_0 a1).f3), .string ((rd_T48 l0_0 a1).f4), .bool ((rd_T48 l0_0 a1).f5.f0), .int .i64 ((rd_T48 l0_0 a1).f5.f1), .int .i64 ((rd_T48 l0_0 a1).f5.f2), .int .i64 ((rd_T48 l0_0 a1).f5.f3.f0), .int .i64 ((rd_T48 l0_0 a1).f5.f3.f1), .int .i64 ((rd_T48 l0_0 a1).f5.f3.f2), .int .i64 ((rd_T48 l0_0 a1).f5.f4.f0), .int .i64 ((rd_T48 l0_0 a1).f5.f4.f1)] 48 (0, 0)) (by (with_reducible repeat first | apply bN | apply bD | apply bA); refine blk_put (cs := #[.int .i64 ((rd_T48 l0_0 a1).f0), .int .i64 ((rd_T48 l0_0 a1).f1), .int .i64 ((rd_T48 l0_0 a1).f2), .string ((rd_T48 l0_0 a1).f3), .string ((rd_T48 l0_0 a1).f4), .bool ((rd_T48 l0_0 a1).f5.f0), .int .i64 ((rd_T48 l0_0 a1).f5.f1), .int .i64 ((rd_T48 l0_0 a1).f5.f2), .int .i64 ((rd_T48 l0_0 a1).f5.f3.f0), .int .i64 ((rd_T48 l0_0 a1).f5.f3.f1), .int .i64 ((rd_T48 l0_0 a1).f5.f3.f2), .int .i64 ((rd_T48 l0_0 a1).f5.f4.f0), .int .i64 0]) ?_ 12 _ rfl; (with_reducible repeat first | apply bN | apply bD | apply bA); refine blk_put (cs := #[.int .i64 ((rd_T48 l0_0 a1).f0), .int .i64 ((rd_T48 l0_0 a1).f1), .int .i64 ((rd_T48 l0_0 a1).f2), .string ((rd_T48 l0_0 a1).f3), .string ((rd_T48 l0_0 a1).f4), .bool ((rd_T48 l0_0 a1).f5.f0), .int .i64 ((rd_T48 l0_0 a1).f5.f1), .int .i64 ((rd_T48 l0_0 a1).f5.f2), .int .i64 ((rd_T48 l0_0 a1).f5.f3.f0), .int .i64 ((rd_T48 l0_0 a1).f5.f3.f1), .int .i64 ((rd_T48 l0_0 a1).f5.f3.f2), .int .i64 0, .int .i64 0]) ?_ 11 _ rfl; (with_reducible repeat first | apply bN | apply bD | apply bA); refine blk_put (cs := #[.int .i64 ((rd_T48 l0_0 a1).f0), .int .i64 ((rd_T48 l0_0 a1).f1), .int .i64 ((rd_T48 l0_0 a1).f2), .string ((rd_T48 l0_0 a1).f3), .string ((rd_T48 l0_0 a1).f4), .bool ((rd_T48 l0_0 a1).f5.f0), .int .i64 ((rd_T48 l0_0 a1).f5.f1), .int .i64 ((rd_T48 l0_0 a1).f5.f2), .int .i64 ((rd_T48 l0_0 a1).f5.f3.f0), .int .i64 ((rd_T48 l0_0 a1).f5.f3.f1), .int .i64 0, .int .i64 0, .int .i64 0]) ?_ 10 _ rfl; (with_reducible repeat first | apply bN | apply bD | apply bA); refine blk_put (cs := #[.int .i64 ((rd_T48 l0_0 a1).f0), .int .i64 ((rd_T48 l0_0 a1).f1), .int .i64 ((rd_T48 l0_0 a1).f2), .string ((rd_T48 l0_0 a1).f3), .string ((rd_T48 l0_0 a1).f4), .bool ((rd_T48 l0_0 a1).f5.f0), .int .i64 ((rd_T48 l0_0 a1).f5.f1), .int .i64 ((rd_T48 l0_0 a1).f5.f2), .int .i64 ((rd_T48 l0_0 a1).f5.f3.f0), .int .i64 0, .int .i64 0, .int .i64 0, .int .i64 0]) ?_ 9 _ rfl; (with_reducible repeat first | apply bN | apply bD | apply bA); refine blk_put (cs := #[.int .i64 ((rd_T48 l0_0 a1).f0), .int .i64 ((rd_T48 l0_0 a1).f1), .int .i64 ((rd_T48 l0_0 a1).f2), .string ((rd_T48 l0_0 a1).f3), .string ((rd_T48 l0_0 a1).f4), .bool ((rd_T48 l0_0 a1).f5.f0), .int .i64 ((rd_T48 l0_0 a1).f5.f1), .int .i64 ((rd_T48 l0_0 a1).f5.f2), .int .i64 0, .int .i64 0, .int .i64 0, .int .i64 0, .int .i64 0]) ?_ 8 _ rfl; (with_reducible repeat first | apply bN | apply bD | apply bA); refine blk_put (cs := #[.int .i64 ((rd_T48 l0_0 a1).f0), .int .i64 ((rd_T48 l0_0 a1).f1), .int .i64 ((rd_T48 l0_0 a1).f2), .string ((rd_T48 l0_0 a1).f3), .string ((rd_T48 l0_0 a1).f4), .bool ((rd_T48 l0_0 a1).f5.f0), .int .i64 ((rd_T48 l0_0 a1).f5.f1), .int .i64 0, .int .i64 0, .int .i64 0, .int .i64 0, .int .i64 0, .int .i64 0]) ?_ 7 _ rfl; (with_reducible repeat first | apply bN | apply bD | apply bA); refine blk_put (cs := #[.int .i64 ((rd_T48 l0_0 a1).f0), .int .i64 ((rd_T48 l0_0 a1).f1), .int .i64 ((rd_T48 l0_0 a1).f2), .string ((rd_T48 l0_0 a1).f3), .string ((rd_T48 l0_0 a1).f4), .bool ((rd_T48 l0_0 a1).f5.f0), .int .i64 0, .int .i64 0, .int .i64 0, .int .i64 0, .int .i64 0, .int .i64 0, .int .i64 0]) ?_ 6 _ rfl; (with_reducible repeat first | apply bN | apply bD | apply bA); refine blk_put (cs := #[.int .i64 ((rd_T48 l0_0 a1).f0), .int .i64 ((rd_T48 l0_0 a1).f1), .int .i64 ((rd_T48 l0_0 a1).f2), .string ((rd_T48 l0_0 a1).f3), .string ((rd_T48 l0_0 a1).f4), .bool false, .int .i64 0, .int .i64 0, .int .i64 0, .int .i64 0, .int .i64 0, .int .i64 0, .int .i64 0]) ?_ 5 _ rfl; (with_reducible repeat first | apply bN | apply bD | apply bA); refine blk_put (cs := #[.int .i64 ((rd_T48 l0_0 a1).f0), .int .i64 ((rd_T48 l0_0 a1).f1), .int .i64 ((rd_T48 l0_0 a1).f2), .string ((rd_T48 l0_0 a1).f3), .string (⟨#[]⟩ : ByteArray), .bool false, .int .i64 0, .int .i64 0, .int .i64 0, .int .i64 0, .int .i64 0, .int .i64 0, .int .i64 0]) ?_ 4 _ rfl; (with_reducible repeat first | apply bN | apply bD | apply bA); refine blk_put (cs := #[.int .i64 ((rd_T48 l0_0 a1).f0), .int .i64 ((rd_T48 l0_0 a1).f1), .int .i64 ((rd_T48 l0_0 a1).f2), .string (⟨#[]⟩ : ByteArray), .string (⟨#[]⟩ : ByteArray), .bool false, .int .i64 0, .int .i64 0, .int .i64 0, .int .i64 0, .int .i64 0, .int .i64 0, .int .i64 0]) ?_ 3 _ rfl; (with_reducible repeat first | apply bN | apply bD | apply bA); refine blk_put (cs := #[.int .i64 ((rd_T48 l0_0 a1).f0), .int .i64 ((rd_T48 l0_0 a1).f1), .int .i64 0, .string (⟨#[]⟩ : ByteArray), .string (⟨#[]⟩ : ByteArray), .bool false, .int .i64 0, .int .i64 0, .int .i64 0, .int .i64 0, .int .i64 0, .int .i64 0, .int .i64 0]) ?_ 2 _ rfl; (with_reducible repeat first | apply bN | apply bD | apply bA); refine blk_put (cs := #[.int .i64 ((rd_T48 l0_0 a1).f0), .int .i64 0, .int .i64 0, .string (⟨#[]⟩ : ByteArray), .string (⟨#[]⟩ : ByteArray), .bool false, .int .i64 0, .int .i64 0, .int .i64 0, .int .i64 0, .int .i64 0, .int .i64 0, .int .i64 0]) ?_ 1 _ rfl; (with_reducible repeat first | apply bN | apply bD | apply bA); refine blk_put (cs := #[.int .i64 0, .int .i64 0, .int .i64 0, .string (⟨#[]⟩ : ByteArray), .string (⟨#[]⟩ : ByteArray), .bool false, .int .i64 0, .int .i64 0, .int .i64 0, .int .i64 0, .int .i64 0, .int .i64 0, .int .i64 0]) ?_ 0 _ rfl; (with_reducible repeat first | apply bN | apply bD | apply bA); exact BK227.out) hb); have n2_ := aM (below_step (by repeat (first | (with_reducible first | exact HB.out | apply lA | apply lN | apply lD | refine lS ?_ GE224.out | refine lS ?_ GE227.out) | exact HB.out)) hb); clear BK224; clear BK227; clear HB; have BK224 := n0_; have BK227 := n1_; have HB := n2_; clear n0_ n1_ n2_; (try clear hb); (try clear hb2); (try clear hk); (try clear hi); obtain ⟨hcz45_0, hcz45_1, hcz45_2, hcz45_3, hcz45_4, hcz45_5, hcz45_6, hcz45_7, hcz45_8, hcz45_9, hcz45_10, hcz45_11, hcz45_12⟩ := blkC13 BK227.out; obtain ⟨hfz45_0, hfz45_1, hfz45_2, hfz45_3, hfz45_4, hfz45_5, hfz45_6, hfz45_7, hfz45_8, hfz45_9, hfz45_10, hfz45_11, hfz45_12⟩ := blkF13 BK227.out))
       go_ret
       exact ⟨by first | rfl | (simp [errW_none, errW_some] <;> rfl) | (simp [*, errW_none, errW_some] <;> rfl), by repeat (first | (with_reducible first | exact HB.out | apply lA | apply lN | apply lD | refine lS ?_ GE224.out | refine lS ?_ GE227.out) | exact HB.out)⟩
     ·rw [if_neg c13] at H
      exact absurd H (by simp)
    ·rw [if_neg c12] at H
     exact absurd H (by simp)
def den_within.f (a0 : Int) (a1 : Int) : Option (Bool) := if a0 ≥ (wrap64 (-a1)) then (some (decide (a0 ≤ a1))) else (some false)
set_option maxHeartbeats 8000000 in
set_option maxRecDepth 100000 in
theorem den_within.calls (a0 : Int) (a1 : Int) (r : Bool) (w : World) (h : den_within.f a0 a1 = some r) :
  Calls Try.prog 31 #[.int .i64 a0, .int .i64 a1] w fun e w' => e = .returned (.bool r) ∧ Drawn0 w w' := by
 have H : (if a0 ≥ (wrap64 (-a1)) then (some (decide (a0 ≤ a1))) else (some false)) = some r := h
 clear h
 by_cases c3 : a0 ≥ (wrap64 (-a1))
 ·rw [if_pos c3] at H
  have c3b0 : decide ((wrap64 (-a1)) ≤ a0) = true := decide_eq_true c3
  clear c3
  obtain rfl := Option.some.inj H
  go_enter Try.func31, Try.ntmps31
  go_wp2
  go_ret
  exact ⟨by first | rfl | (simp; done) | (simp [*]; done), by repeat (first | exact Drawn0.refl _ | apply Drawn0.step)⟩
 ·rw [if_neg c3] at H
  have c3b0 : decide ((wrap64 (-a1)) ≤ a0) = false := decide_eq_false c3
  clear c3
  obtain rfl := Option.some.inj H
  go_enter Try.func31, Try.ntmps31
  go_wp2
  go_ret
  exact ⟨by first | rfl | (simp; done) | (simp [*]; done), by repeat (first | exact Drawn0.refl _ | apply Drawn0.step)⟩
def den_clocked.f (a0_0 : Int) (a0_1 : Int) : Option (Bool) := (den_within.f a0_0 604799).bind fun t233 => (if t233 = true then (if a0_1 ≥ 0 then (some (decide (a0_1 ≤ 2))) else (some false)) else (some false))
set_option maxHeartbeats 8000000 in
set_option maxRecDepth 100000 in
theorem den_clocked.calls (a0_0 : Int) (a0_1 : Int) (r : Bool) (w : World) (h : den_clocked.f a0_0 a0_1 = some r) :
  Calls Try.prog 32 #[.agg #[.int .i64 a0_0, .int .i64 a0_1]] w fun e w' => e = .returned (.bool r) ∧ Below w.heap.size w w' := by
 have hu44 := Try.underlying44
 have HB := aM (Below.refl w.heap.size w)
 have H : ((den_within.f a0_0 604799).bind fun t233 => (if t233 = true then (if a0_1 ≥ 0 then (some (decide (a0_1 ≤ 2))) else (some false)) else (some false))) = some r := h
 clear h
 replace H := Option.bind_eq_some_iff.mp H
 obtain ⟨t233, A20, H⟩ := H
 replace H : (if t233 = true then (if a0_1 ≥ 0 then (some (decide (a0_1 ≤ 2))) else (some false)) else (some false)) = some r := H
 have A2 := aM A20
 clear A20
 by_cases c3 : t233 = true
 ·subst c3
  have H1 : (if a0_1 ≥ 0 then (some (decide (a0_1 ≤ 2))) else (some false)) = some r := by rw [if_pos rfl] at H; exact H
  clear H
  have H := H1
  clear H1
  by_cases c4 : a0_1 ≥ 0
  ·rw [if_pos c4] at H
   have c4b0 : decide (0 ≤ a0_1) = true := decide_eq_true c4
   clear c4
   obtain rfl := Option.some.inj H
   go_enter Try.func32, Try.ntmps32
   go_wp2_with (first | ((with_reducible refine gate_dst (N := 1) rfl ?_); refine box_event ?hg (N := 1) ?hd (cs := #[.int .i64 a0_0, .int .i64 a0_1]) (t := 44) ?hr ?_; (case hd => rfl); (case hg => rfl); (case hr => first | (go_simp; done) | (go_simp; rfl)); intro gb232 hg w5 hbox hb; have n0_ := aM (below_step (by repeat (first | (with_reducible first | exact HB.out | apply lA | apply lN | apply lD) | exact HB.out)) hb); have n1_ := aM (hbox); have n2_ := aM ((by rw [hg]; exact (below_size (by repeat (first | (with_reducible first | exact HB.out | apply lA | apply lN | apply lD) | exact HB.out))) : w.heap.size ≤ gb232)); have n3_ := aM ((by rw [hg]; exact (below_size (by repeat (first | (with_reducible first | exact HB.out | apply lA | apply lN | apply lD) | exact HB.out))) : w.heap.size ≤ gb232)); clear HB; have HB := n0_; have BK232 := n1_; have GW232 := n2_; have GE232 := n3_; clear n0_ n1_ n2_ n3_; clear hb hbox hg; obtain ⟨hcz6_0, hcz6_1⟩ := blkC2 BK232.out; obtain ⟨hfz6_0, hfz6_1⟩ := blkF2 BK232.out) | ((with_reducible refine gate_callee (f := 31) rfl ?_); refine goesL_ (some 5) rfl rfl Try.func31 (by kernel_rfl) rfl #[.int .i64 a0_0, .int .i64 604799] rfl (by (try simp only [List.map_toArray, List.map_cons, List.map_nil]); first | done | rfl | (simp only [List.length_drop, List.length_take]; rfl)) ?_; (with_reducible refine (den_within.calls a0_0 604799 true _ A2.out).mono ?_); rintro e w' ⟨rfl, ⟨nd, rfl⟩⟩; refine ⟨_, rfl, ?_⟩))
   go_ret
   exact ⟨by first | rfl | (simp [errW_none, errW_some] <;> rfl) | (simp [*, errW_none, errW_some] <;> rfl), by repeat (first | (with_reducible first | exact HB.out | apply lA | apply lN | apply lD | refine lS ?_ GE232.out) | exact HB.out)⟩
  ·rw [if_neg c4] at H
   have c4b0 : decide (0 ≤ a0_1) = false := decide_eq_false c4
   clear c4
   obtain rfl := Option.some.inj H
   go_enter Try.func32, Try.ntmps32
   go_wp2_with (first | ((with_reducible refine gate_dst (N := 1) rfl ?_); refine box_event ?hg (N := 1) ?hd (cs := #[.int .i64 a0_0, .int .i64 a0_1]) (t := 44) ?hr ?_; (case hd => rfl); (case hg => rfl); (case hr => first | (go_simp; done) | (go_simp; rfl)); intro gb232 hg w7 hbox hb; have n0_ := aM (below_step (by repeat (first | (with_reducible first | exact HB.out | apply lA | apply lN | apply lD) | exact HB.out)) hb); have n1_ := aM (hbox); have n2_ := aM ((by rw [hg]; exact (below_size (by repeat (first | (with_reducible first | exact HB.out | apply lA | apply lN | apply lD) | exact HB.out))) : w.heap.size ≤ gb232)); have n3_ := aM ((by rw [hg]; exact (below_size (by repeat (first | (with_reducible first | exact HB.out | apply lA | apply lN | apply lD) | exact HB.out))) : w.heap.size ≤ gb232)); clear HB; have HB := n0_; have BK232 := n1_; have GW232 := n2_; have GE232 := n3_; clear n0_ n1_ n2_ n3_; clear hb hbox hg; obtain ⟨hcz8_0, hcz8_1⟩ := blkC2 BK232.out; obtain ⟨hfz8_0, hfz8_1⟩ := blkF2 BK232.out) | ((with_reducible refine gate_callee (f := 31) rfl ?_); refine goesL_ (some 5) rfl rfl Try.func31 (by kernel_rfl) rfl #[.int .i64 a0_0, .int .i64 604799] rfl (by (try simp only [List.map_toArray, List.map_cons, List.map_nil]); first | done | rfl | (simp only [List.length_drop, List.length_take]; rfl)) ?_; (with_reducible refine (den_within.calls a0_0 604799 true _ A2.out).mono ?_); rintro e w' ⟨rfl, ⟨nd, rfl⟩⟩; refine ⟨_, rfl, ?_⟩))
   go_ret
   exact ⟨by first | rfl | (simp [errW_none, errW_some] <;> rfl) | (simp [*, errW_none, errW_some] <;> rfl), by repeat (first | (with_reducible first | exact HB.out | apply lA | apply lN | apply lD | refine lS ?_ GE232.out) | exact HB.out)⟩
 ·replace c3 := Bool.eq_false_iff.mpr c3
  subst c3
  have H1 : (some false) = some r := by rw [if_neg (show ¬ (false = true) by decide)] at H; exact H
  clear H
  have H := H1
  clear H1
  obtain rfl := Option.some.inj H
  go_enter Try.func32, Try.ntmps32
  go_wp2_with (first | ((with_reducible refine gate_dst (N := 1) rfl ?_); refine box_event ?hg (N := 1) ?hd (cs := #[.int .i64 a0_0, .int .i64 a0_1]) (t := 44) ?hr ?_; (case hd => rfl); (case hg => rfl); (case hr => first | (go_simp; done) | (go_simp; rfl)); intro gb232 hg w9 hbox hb; have n0_ := aM (below_step (by repeat (first | (with_reducible first | exact HB.out | apply lA | apply lN | apply lD) | exact HB.out)) hb); have n1_ := aM (hbox); have n2_ := aM ((by rw [hg]; exact (below_size (by repeat (first | (with_reducible first | exact HB.out | apply lA | apply lN | apply lD) | exact HB.out))) : w.heap.size ≤ gb232)); have n3_ := aM ((by rw [hg]; exact (below_size (by repeat (first | (with_reducible first | exact HB.out | apply lA | apply lN | apply lD) | exact HB.out))) : w.heap.size ≤ gb232)); clear HB; have HB := n0_; have BK232 := n1_; have GW232 := n2_; have GE232 := n3_; clear n0_ n1_ n2_ n3_; clear hb hbox hg; obtain ⟨hcz10_0, hcz10_1⟩ := blkC2 BK232.out; obtain ⟨hfz10_0, hfz10_1⟩ := blkF2 BK232.out) | ((with_reducible refine gate_callee (f := 31) rfl ?_); refine goesL_ (some 5) rfl rfl Try.func31 (by kernel_rfl) rfl #[.int .i64 a0_0, .int .i64 604799] rfl (by (try simp only [List.map_toArray, List.map_cons, List.map_nil]); first | done | rfl | (simp only [List.length_drop, List.length_take]; rfl)) ?_; (with_reducible refine (den_within.calls a0_0 604799 false _ A2.out).mono ?_); rintro e w' ⟨rfl, ⟨nd, rfl⟩⟩; refine ⟨_, rfl, ?_⟩))
  go_ret
  exact ⟨by first | rfl | (simp [errW_none, errW_some] <;> rfl) | (simp [*, errW_none, errW_some] <;> rfl), by repeat (first | (with_reducible first | exact HB.out | apply lA | apply lN | apply lD | refine lS ?_ GE232.out) | exact HB.out)⟩
def den_fits_1.f (a0_0 : ByteArray) (a0_1 : Int) (a0_2 : Int) (a0_3 : Int) (a0_4 : Int) (a0_5 : Int) (a0_6 : Int) (a0_7 : Int) (a0_8 : Int) (a0_9 : Int) (a0_10 : ByteArray) : Option (Bool) := (den_within.f a0_9 86400).bind fun t235 => (if t235 = true then ((den_clocked.f a0_7 a0_8).bind fun t236 => (some (!t236))) else (some true))
set_option maxHeartbeats 8000000 in
set_option maxRecDepth 100000 in
theorem den_fits_1.calls (a0_0 : ByteArray) (a0_1 : Int) (a0_2 : Int) (a0_3 : Int) (a0_4 : Int) (a0_5 : Int) (a0_6 : Int) (a0_7 : Int) (a0_8 : Int) (a0_9 : Int) (a0_10 : ByteArray) (r : Bool) (w : World) (h : den_fits_1.f a0_0 a0_1 a0_2 a0_3 a0_4 a0_5 a0_6 a0_7 a0_8 a0_9 a0_10 = some r) :
  Calls Try.prog 34 #[.agg #[.string a0_0, .int .i64 a0_1, .int .i64 a0_2, .int .i64 a0_3, .int .i64 a0_4, .int .i64 a0_5, .int .i64 a0_6, .int .i64 a0_7, .int .i64 a0_8, .int .i64 a0_9, .string a0_10]] w fun e w' => e = .returned (.bool r) ∧ Below w.heap.size w w' := by
 have hu53 := Try.underlying53
 have hu44 := Try.underlying44
 have HB := aM (Below.refl w.heap.size w)
 have H : ((den_within.f a0_9 86400).bind fun t235 => (if t235 = true then ((den_clocked.f a0_7 a0_8).bind fun t236 => (some (!t236))) else (some true))) = some r := h
 clear h
 replace H := Option.bind_eq_some_iff.mp H
 obtain ⟨t235, A20, H⟩ := H
 replace H : (if t235 = true then ((den_clocked.f a0_7 a0_8).bind fun t236 => (some (!t236))) else (some true)) = some r := H
 have A2 := aM A20
 clear A20
 by_cases c3 : t235 = true
 ·subst c3
  have H1 : ((den_clocked.f a0_7 a0_8).bind fun t236 => (some (!t236))) = some r := by rw [if_pos rfl] at H; exact H
  clear H
  have H := H1
  clear H1
  replace H := Option.bind_eq_some_iff.mp H
  obtain ⟨t236, A40, H⟩ := H
  replace H : (some (!t236)) = some r := H
  have A4 := aM A40
  clear A40
  obtain rfl := Option.some.inj H
  go_enter Try.func34, Try.ntmps34
  go_wp2_with (first | ((with_reducible refine gate_dst (N := 1) rfl ?_); refine box_event ?hg (N := 1) ?hd (cs := #[.string a0_0, .int .i64 a0_1, .int .i64 a0_2, .int .i64 a0_3, .int .i64 a0_4, .int .i64 a0_5, .int .i64 a0_6, .int .i64 a0_7, .int .i64 a0_8, .int .i64 a0_9, .string a0_10]) (t := 53) ?hr ?_; (case hd => rfl); (case hg => rfl); (case hr => first | (go_simp; done) | (go_simp; rfl)); intro gb234 hg w5 hbox hb; have n0_ := aM (below_step (by repeat (first | (with_reducible first | exact HB.out | apply lA | apply lN | apply lD) | exact HB.out)) hb); have n1_ := aM (hbox); have n2_ := aM ((by rw [hg]; exact (below_size (by repeat (first | (with_reducible first | exact HB.out | apply lA | apply lN | apply lD) | exact HB.out))) : w.heap.size ≤ gb234)); have n3_ := aM ((by rw [hg]; exact (below_size (by repeat (first | (with_reducible first | exact HB.out | apply lA | apply lN | apply lD) | exact HB.out))) : w.heap.size ≤ gb234)); clear HB; have HB := n0_; have BK234 := n1_; have GW234 := n2_; have GE234 := n3_; clear n0_ n1_ n2_ n3_; clear hb hbox hg; obtain ⟨hcz6_0, hcz6_1, hcz6_2, hcz6_3, hcz6_4, hcz6_5, hcz6_6, hcz6_7, hcz6_8, hcz6_9, hcz6_10⟩ := blkC11 BK234.out; obtain ⟨hfz6_0, hfz6_1, hfz6_2, hfz6_3, hfz6_4, hfz6_5, hfz6_6, hfz6_7, hfz6_8, hfz6_9, hfz6_10⟩ := blkF11 BK234.out) | ((with_reducible refine gate_callee (f := 31) rfl ?_); refine goesL_ (some 5) rfl rfl Try.func31 (by kernel_rfl) rfl #[.int .i64 a0_9, .int .i64 86400] rfl (by (try simp only [List.map_toArray, List.map_cons, List.map_nil]); first | done | rfl | (simp only [List.length_drop, List.length_take]; rfl)) ?_; (with_reducible refine (den_within.calls a0_9 86400 true _ A2.out).mono ?_); rintro e w' ⟨rfl, ⟨nd, rfl⟩⟩; refine ⟨_, rfl, ?_⟩) | (go_at_call 32; (with_reducible refine (den_clocked.calls a0_7 a0_8 t236 _ A4.out).mono ?_); rintro e w7 ⟨rfl, hb⟩; have n0_ := aM (blk_below (bX BK234.out) hb); have n1_ := aM (below_step (by repeat (first | (with_reducible first | exact HB.out | apply lA | apply lN | apply lD | refine lS ?_ GE234.out) | exact HB.out)) hb); clear BK234; clear HB; have BK234 := n0_; have HB := n1_; clear n0_ n1_; (try clear hb); (try clear hb2); (try clear hk); (try clear hi)))
  go_ret
  exact ⟨by first | rfl | (simp [errW_none, errW_some] <;> rfl) | (simp [*, errW_none, errW_some] <;> rfl), by repeat (first | (with_reducible first | exact HB.out | apply lA | apply lN | apply lD | refine lS ?_ GE234.out) | exact HB.out)⟩
 ·replace c3 := Bool.eq_false_iff.mpr c3
  subst c3
  have H1 : (some true) = some r := by rw [if_neg (show ¬ (false = true) by decide)] at H; exact H
  clear H
  have H := H1
  clear H1
  obtain rfl := Option.some.inj H
  go_enter Try.func34, Try.ntmps34
  go_wp2_with (first | ((with_reducible refine gate_dst (N := 1) rfl ?_); refine box_event ?hg (N := 1) ?hd (cs := #[.string a0_0, .int .i64 a0_1, .int .i64 a0_2, .int .i64 a0_3, .int .i64 a0_4, .int .i64 a0_5, .int .i64 a0_6, .int .i64 a0_7, .int .i64 a0_8, .int .i64 a0_9, .string a0_10]) (t := 53) ?hr ?_; (case hd => rfl); (case hg => rfl); (case hr => first | (go_simp; done) | (go_simp; rfl)); intro gb234 hg w8 hbox hb; have n0_ := aM (below_step (by repeat (first | (with_reducible first | exact HB.out | apply lA | apply lN | apply lD) | exact HB.out)) hb); have n1_ := aM (hbox); have n2_ := aM ((by rw [hg]; exact (below_size (by repeat (first | (with_reducible first | exact HB.out | apply lA | apply lN | apply lD) | exact HB.out))) : w.heap.size ≤ gb234)); have n3_ := aM ((by rw [hg]; exact (below_size (by repeat (first | (with_reducible first | exact HB.out | apply lA | apply lN | apply lD) | exact HB.out))) : w.heap.size ≤ gb234)); clear HB; have HB := n0_; have BK234 := n1_; have GW234 := n2_; have GE234 := n3_; clear n0_ n1_ n2_ n3_; clear hb hbox hg; obtain ⟨hcz9_0, hcz9_1, hcz9_2, hcz9_3, hcz9_4, hcz9_5, hcz9_6, hcz9_7, hcz9_8, hcz9_9, hcz9_10⟩ := blkC11 BK234.out; obtain ⟨hfz9_0, hfz9_1, hfz9_2, hfz9_3, hfz9_4, hfz9_5, hfz9_6, hfz9_7, hfz9_8, hfz9_9, hfz9_10⟩ := blkF11 BK234.out) | ((with_reducible refine gate_callee (f := 31) rfl ?_); refine goesL_ (some 5) rfl rfl Try.func31 (by kernel_rfl) rfl #[.int .i64 a0_9, .int .i64 86400] rfl (by (try simp only [List.map_toArray, List.map_cons, List.map_nil]); first | done | rfl | (simp only [List.length_drop, List.length_take]; rfl)) ?_; (with_reducible refine (den_within.calls a0_9 86400 false _ A2.out).mono ?_); rintro e w' ⟨rfl, ⟨nd, rfl⟩⟩; refine ⟨_, rfl, ?_⟩))
  go_ret
  exact ⟨by first | rfl | (simp [errW_none, errW_some] <;> rfl) | (simp [*, errW_none, errW_some] <;> rfl), by repeat (first | (with_reducible first | exact HB.out | apply lA | apply lN | apply lD | refine lS ?_ GE234.out) | exact HB.out)⟩
def api_Rule_51.l0 : Nat → List (S53) → Int → Int → Option (Int)
 | 0, _, _, _ => none
 | k + 1, x0, x7, x8 => if x8 < x7 then (if 0 ≤ x8 then (if x8 < (x0.length : Int) then ((den_fits_1.f ((rd_T53 x0 x8).f0) ((rd_T53 x0 x8).f1) ((rd_T53 x0 x8).f2) ((rd_T53 x0 x8).f3) ((rd_T53 x0 x8).f4.f0) ((rd_T53 x0 x8).f4.f1) ((rd_T53 x0 x8).f4.f2) ((rd_T53 x0 x8).f5.f0) ((rd_T53 x0 x8).f5.f1) ((rd_T53 x0 x8).f6) ((rd_T53 x0 x8).f7)).bind fun t238 => (if t238 = true then (some x8) else (api_Rule_51.l0 k x0 x7 (wrap64 (x8 + 1))))) else (none)) else (none)) else (some (-1))
def api_Rule_51.f (k : Nat) (l0 : List (S53))  : Option (Int) := api_Rule_51.l0 k l0 (l0.length : Int) 0
theorem api_Rule_51.mono_l : ∀ k, (∀ y0 y1 y2, LeO (api_Rule_51.l0 k y0 y1 y2) (api_Rule_51.l0 (k + 1) y0 y1 y2))
 | 0 => fun _ _ _ r h => by simp [api_Rule_51.l0] at h
 | k + 1 => by
  have ih0 := api_Rule_51.mono_l k
  ·intro y0 y1 y2
   unfold api_Rule_51.l0
   repeat' first
   | (with_reducible exact ih0 _ _ _)
   | (with_reducible exact LeO.refl _)
   | (with_reducible exact LeO.none _)
   | (with_reducible refine LeO.ite ?_ ?_)
   | (with_reducible refine LeO.bind ?_ (fun _ => ?_))
   | exact ih0 _ _ _
   | exact LeO.none _
   | refine LeO.ite ?_ ?_
   | refine LeO.bind ?_ (fun _ => ?_)
theorem api_Rule_51.mono : ∀ a0 k, LeO (api_Rule_51.f k a0) (api_Rule_51.f (k + 1) a0) := by
 intro a0 k
 have ih0 := api_Rule_51.mono_l k
 unfold api_Rule_51.f
 repeat' first
   | (with_reducible exact ih0 _ _ _)
   | (with_reducible exact LeO.refl _)
   | (with_reducible exact LeO.none _)
   | (with_reducible refine LeO.ite ?_ ?_)
   | (with_reducible refine LeO.bind ?_ (fun _ => ?_))
   | exact ih0 _ _ _
   | exact LeO.none _
   | refine LeO.ite ?_ ?_
   | refine LeO.bind ?_ (fun _ => ?_)
set_option maxHeartbeats 8000000 in
set_option maxRecDepth 100000 in
theorem api_Rule_51.calls (k : Nat) (A0 : Option Addr) (c0 : Nat) (l0 : List (S53))  (r : Int) (w : World) (hr0 : Kd.C k53 w A0 l0.length l0) (hc0 : l0.length ≤ c0) (h : api_Rule_51.f k l0 = some r) :
  Calls Try.prog 51 #[.slice A0 l0.length c0, .func (.func 34) #[] #[]] w fun e w' => e = .returned (.int .i64 r) ∧ Below w.heap.size w w' := by
 have hu53 := Try.underlying53
 have HR0 := aM hr0
 have HC0 := aM hc0
 clear hr0 hc0
 have HB := aM (Below.refl w.heap.size w)
 have H : (api_Rule_51.l0 k l0 (l0.length : Int) 0) = some r := h
 clear h
 have H' := aM H
 clear H
 go_enter Try.func51, Try.ntmps51
 go_wp2
 go_loopg [8] k (fun kq v8 w' => ∃ (x8_1 : Int), v8 = .int .i64 x8_1 ∧ Aside0 (api_Rule_51.l0 kq l0 (l0.length : Int) x8_1 = some r) ∧ Aside0 (kq ≤ k) ∧ Aside0 (Below w.heap.size w w'))
 case atStart => exact ⟨(0), (by first | rfl | (simp; done) | (simp [*]; done)), H', ⟨Nat.le_refl _⟩, ⟨by repeat (first | (with_reducible first | exact HB.out | apply lA | apply lN | apply lD) | exact HB.out)⟩⟩
 case round =>
  clear H'
  try clear p2
  obtain ⟨x8_1, rfl, HA, HK1, HB⟩ := hrel
  cases gk with
  | zero => exact absurd HA.out (by simp [api_Rule_51.l0])
  | succ k1 =>
   have H := HA.out
   clear HA
   simp only [api_Rule_51.l0] at H
   by_cases c3 : x8_1 < (l0.length : Int)
   ·rw [if_pos c3] at H
    have c3b0 : decide (x8_1 < (l0.length : Int)) = true := decide_eq_true c3
    clear c3
    by_cases c4 : 0 ≤ x8_1
    ·rw [if_pos c4] at H
     have c4b0 : decide (0 ≤ x8_1) = true := decide_eq_true c4
     clear c4
     by_cases c5 : x8_1 < (l0.length : Int)
     ·rw [if_pos c5] at H
      have c5b0 : decide (x8_1 < (l0.length : Int)) = true := decide_eq_true c5
      clear c5
      replace H := Option.bind_eq_some_iff.mp H
      obtain ⟨t238, A60, H⟩ := H
      replace H : (if t238 = true then (some x8_1) else (api_Rule_51.l0 k1 l0 (l0.length : Int) (wrap64 (x8_1 + 1)))) = some r := H
      have A6 := aM A60
      clear A60
      by_cases c7 : t238 = true
      ·subst c7
       have H1 : (some x8_1) = some r := by rw [if_pos rfl] at H; exact H
       clear H
       have H := H1
       clear H1
       obtain rfl := Option.some.inj H
       have p237 : 0 ≤ (x8_1 : Int) := of_decide_eq_true (by assumption)
       have q237 : x8_1 < (l0.length : Int) := of_decide_eq_true (by assumption)
       obtain ⟨ad237, e237, hx237_0, hx237_1, hx237_2, hx237_3, hx237_4, hx237_5, hx237_6, hx237_7, hx237_8, hx237_9, hx237_10⟩ := at_T53 HR0.out x8_1 p237 q237
       cases e237
       replace hx237_0 := (HB.out.cell (wB w _ hx237_0)).trans hx237_0
       replace hx237_1 := (HB.out.cell (wB w _ hx237_1)).trans hx237_1
       replace hx237_2 := (HB.out.cell (wB w _ hx237_2)).trans hx237_2
       replace hx237_3 := (HB.out.cell (wB w _ hx237_3)).trans hx237_3
       replace hx237_4 := (HB.out.cell (wB w _ hx237_4)).trans hx237_4
       replace hx237_5 := (HB.out.cell (wB w _ hx237_5)).trans hx237_5
       replace hx237_6 := (HB.out.cell (wB w _ hx237_6)).trans hx237_6
       replace hx237_7 := (HB.out.cell (wB w _ hx237_7)).trans hx237_7
       replace hx237_8 := (HB.out.cell (wB w _ hx237_8)).trans hx237_8
       replace hx237_9 := (HB.out.cell (wB w _ hx237_9)).trans hx237_9
       replace hx237_10 := (HB.out.cell (wB w _ hx237_10)).trans hx237_10
       replace p237 := eq_true p237
       replace q237 := eq_true q237
       go_wp2_with (first | ((with_reducible refine gate_dst (N := 16) rfl ?_); refine goesV_ (some 16) rfl rfl Try.func34 (by kernel_rfl) rfl [] [.agg #[.string ((rd_T53 l0 x8_1).f0), .int .i64 ((rd_T53 l0 x8_1).f1), .int .i64 ((rd_T53 l0 x8_1).f2), .int .i64 ((rd_T53 l0 x8_1).f3), .int .i64 ((rd_T53 l0 x8_1).f4.f0), .int .i64 ((rd_T53 l0 x8_1).f4.f1), .int .i64 ((rd_T53 l0 x8_1).f4.f2), .int .i64 ((rd_T53 l0 x8_1).f5.f0), .int .i64 ((rd_T53 l0 x8_1).f5.f1), .int .i64 ((rd_T53 l0 x8_1).f6), .string ((rd_T53 l0 x8_1).f7)]] [.agg #[.string ((rd_T53 l0 x8_1).f0), .int .i64 ((rd_T53 l0 x8_1).f1), .int .i64 ((rd_T53 l0 x8_1).f2), .int .i64 ((rd_T53 l0 x8_1).f3), .int .i64 ((rd_T53 l0 x8_1).f4.f0), .int .i64 ((rd_T53 l0 x8_1).f4.f1), .int .i64 ((rd_T53 l0 x8_1).f4.f2), .int .i64 ((rd_T53 l0 x8_1).f5.f0), .int .i64 ((rd_T53 l0 x8_1).f5.f1), .int .i64 ((rd_T53 l0 x8_1).f6), .string ((rd_T53 l0 x8_1).f7)]] rfl rfl (by (try simp only [List.map_toArray, List.map_cons, List.map_nil]); first | done | rfl) rfl ?_; (with_reducible refine (den_fits_1.calls ((rd_T53 l0 x8_1).f0) ((rd_T53 l0 x8_1).f1) ((rd_T53 l0 x8_1).f2) ((rd_T53 l0 x8_1).f3) ((rd_T53 l0 x8_1).f4.f0) ((rd_T53 l0 x8_1).f4.f1) ((rd_T53 l0 x8_1).f4.f2) ((rd_T53 l0 x8_1).f5.f0) ((rd_T53 l0 x8_1).f5.f1) ((rd_T53 l0 x8_1).f6) ((rd_T53 l0 x8_1).f7) true _ A6.out).mono ?_); rintro e w8 ⟨rfl, hb⟩; refine ⟨_, rfl, ?_⟩; have n0_ := aM (below_step (by repeat (first | (with_reducible first | exact HB.out | apply lA | apply lN | apply lD) | exact HB.out)) hb); clear HB; have HB := n0_; clear n0_; (try clear hb); (try clear hb2); (try clear hk); (try clear hi)))
       go_ret
       exact ⟨by first | rfl | (simp [errW_none, errW_some] <;> rfl) | (simp [*, errW_none, errW_some] <;> rfl), by repeat (first | (with_reducible first | exact HB.out | apply lA | apply lN | apply lD) | exact HB.out)⟩
      ·replace c7 := Bool.eq_false_iff.mpr c7
       subst c7
       have H1 : (api_Rule_51.l0 k1 l0 (l0.length : Int) (wrap64 (x8_1 + 1))) = some r := by rw [if_neg (show ¬ (false = true) by decide)] at H; exact H
       clear H
       have H := H1
       clear H1
       have H' := aM H
       clear H
       have p237 : 0 ≤ (x8_1 : Int) := of_decide_eq_true (by assumption)
       have q237 : x8_1 < (l0.length : Int) := of_decide_eq_true (by assumption)
       obtain ⟨ad237, e237, hx237_0, hx237_1, hx237_2, hx237_3, hx237_4, hx237_5, hx237_6, hx237_7, hx237_8, hx237_9, hx237_10⟩ := at_T53 HR0.out x8_1 p237 q237
       cases e237
       replace hx237_0 := (HB.out.cell (wB w _ hx237_0)).trans hx237_0
       replace hx237_1 := (HB.out.cell (wB w _ hx237_1)).trans hx237_1
       replace hx237_2 := (HB.out.cell (wB w _ hx237_2)).trans hx237_2
       replace hx237_3 := (HB.out.cell (wB w _ hx237_3)).trans hx237_3
       replace hx237_4 := (HB.out.cell (wB w _ hx237_4)).trans hx237_4
       replace hx237_5 := (HB.out.cell (wB w _ hx237_5)).trans hx237_5
       replace hx237_6 := (HB.out.cell (wB w _ hx237_6)).trans hx237_6
       replace hx237_7 := (HB.out.cell (wB w _ hx237_7)).trans hx237_7
       replace hx237_8 := (HB.out.cell (wB w _ hx237_8)).trans hx237_8
       replace hx237_9 := (HB.out.cell (wB w _ hx237_9)).trans hx237_9
       replace hx237_10 := (HB.out.cell (wB w _ hx237_10)).trans hx237_10
       replace p237 := eq_true p237
       replace q237 := eq_true q237
       go_wp2_with (first | ((with_reducible refine gate_dst (N := 16) rfl ?_); refine goesV_ (some 16) rfl rfl Try.func34 (by kernel_rfl) rfl [] [.agg #[.string ((rd_T53 l0 x8_1).f0), .int .i64 ((rd_T53 l0 x8_1).f1), .int .i64 ((rd_T53 l0 x8_1).f2), .int .i64 ((rd_T53 l0 x8_1).f3), .int .i64 ((rd_T53 l0 x8_1).f4.f0), .int .i64 ((rd_T53 l0 x8_1).f4.f1), .int .i64 ((rd_T53 l0 x8_1).f4.f2), .int .i64 ((rd_T53 l0 x8_1).f5.f0), .int .i64 ((rd_T53 l0 x8_1).f5.f1), .int .i64 ((rd_T53 l0 x8_1).f6), .string ((rd_T53 l0 x8_1).f7)]] [.agg #[.string ((rd_T53 l0 x8_1).f0), .int .i64 ((rd_T53 l0 x8_1).f1), .int .i64 ((rd_T53 l0 x8_1).f2), .int .i64 ((rd_T53 l0 x8_1).f3), .int .i64 ((rd_T53 l0 x8_1).f4.f0), .int .i64 ((rd_T53 l0 x8_1).f4.f1), .int .i64 ((rd_T53 l0 x8_1).f4.f2), .int .i64 ((rd_T53 l0 x8_1).f5.f0), .int .i64 ((rd_T53 l0 x8_1).f5.f1), .int .i64 ((rd_T53 l0 x8_1).f6), .string ((rd_T53 l0 x8_1).f7)]] rfl rfl (by (try simp only [List.map_toArray, List.map_cons, List.map_nil]); first | done | rfl) rfl ?_; (with_reducible refine (den_fits_1.calls ((rd_T53 l0 x8_1).f0) ((rd_T53 l0 x8_1).f1) ((rd_T53 l0 x8_1).f2) ((rd_T53 l0 x8_1).f3) ((rd_T53 l0 x8_1).f4.f0) ((rd_T53 l0 x8_1).f4.f1) ((rd_T53 l0 x8_1).f4.f2) ((rd_T53 l0 x8_1).f5.f0) ((rd_T53 l0 x8_1).f5.f1) ((rd_T53 l0 x8_1).f6) ((rd_T53 l0 x8_1).f7) false _ A6.out).mono ?_); rintro e w9 ⟨rfl, hb⟩; refine ⟨_, rfl, ?_⟩; have n0_ := aM (below_step (by repeat (first | (with_reducible first | exact HB.out | apply lA | apply lN | apply lD) | exact HB.out)) hb); clear HB; have HB := n0_; clear n0_; (try clear hb); (try clear hb2); (try clear hk); (try clear hi)))
       go_roundg k1
       case measure => have := HK1.out; omega
       case rel => exact ⟨(wrap64 (x8_1 + 1)), (by first | rfl | (simp; done) | (simp [*]; done)), H', ⟨by have := HK1.out; omega⟩, ⟨by repeat (first | (with_reducible first | exact HB.out | apply lA | apply lN | apply lD) | exact HB.out)⟩⟩
     ·rw [if_neg c5] at H
      exact absurd H (by simp)
    ·rw [if_neg c4] at H
     exact absurd H (by simp)
   ·rw [if_neg c3] at H
    have c3b0 : decide (x8_1 < (l0.length : Int)) = false := decide_eq_false c3
    clear c3
    obtain rfl := Option.some.inj H
    go_wp2
    go_ret
    exact ⟨by first | rfl | (simp [errW_none, errW_some] <;> rfl) | (simp [*, errW_none, errW_some] <;> rfl), by repeat (first | (with_reducible first | exact HB.out | apply lA | apply lN | apply lD) | exact HB.out)⟩
end Go.Proofs.Ytadamegddcadcaa.PDen
