import Derived.Test.YtadamegddcadcaaPDenx0
namespace Go.Proofs.Ytadamegddcadcaa.PDen
open Go.Proofs.YtadamegddcadcaaV Go.RowKit Go.Proofs.YtadamegddcadcaaW.PrintWords Go.Proofs.YtadamegddcadcaaW.PrintLast Go.Proofs.YtadamegddcadcaaW.PrintMore
attribute [local go_sem] max2_int min2_int max_two min_two max_three min_three max_four min_four
set_option linter.unusedVariables false
set_option linter.unusedSimpArgs false
def expand_Instant.j0 : Nat → List (S53) → Int → Bool → Int → Int → Int → Int → Option (Int)
 | 0, _, _, _, _, _, _, _ => none
 | k + 1, x0, x2, x16, x199000, x199001, x199002, x199003 => if x16 = true then (some 0) else (if 0 ≤ x199000 then (if x199000 < (x0.length : Int) then (if ((rd_T53 x0 x199000).f5.f1) = 0 then (some (wrap64 (x199002 - (wrap64 (x2 + x199003))))) else (if ((rd_T53 x0 x199000).f5.f1) = 1 then (some (wrap64 (x199002 - x2))) else (some (wrap64 (x199002 - 0))))) else (none)) else (none))
def expand_Instant.f (k : Nat) (l0 : List (S53)) (a1_0 : Int) (a1_1 : Int) (a1_2 : Int) (a1_3 : Int) (a2 : Int) : Option (Int) := if a1_0 < 0 then (expand_Instant.j0 k l0 a2 true a1_0 a1_1 a1_2 a1_3) else (expand_Instant.j0 k l0 a2 (decide (a1_0 ≥ (l0.length : Int))) a1_0 a1_1 a1_2 a1_3)
theorem expand_Instant.mono_l : ∀ k, (∀ y0 y1 y2 y3 y4 y5 y6, LeO (expand_Instant.j0 k y0 y1 y2 y3 y4 y5 y6) (expand_Instant.j0 (k + 1) y0 y1 y2 y3 y4 y5 y6))
 | 0 => fun _ _ _ _ _ _ _ r h => by simp [expand_Instant.j0] at h
 | k + 1 => by
  have ih0 := expand_Instant.mono_l k
  ·intro y0 y1 y2 y3 y4 y5 y6
   unfold expand_Instant.j0
   repeat' first
   | (with_reducible exact ih0 _ _ _ _ _ _ _)
   | (with_reducible exact LeO.refl _)
   | (with_reducible exact LeO.none _)
   | (with_reducible refine LeO.ite ?_ ?_)
   | (with_reducible refine LeO.bind ?_ (fun _ => ?_))
   | exact ih0 _ _ _ _ _ _ _
   | exact LeO.none _
   | refine LeO.ite ?_ ?_
   | refine LeO.bind ?_ (fun _ => ?_)
theorem expand_Instant.mono : ∀ a0 a1 a2 a3 a4 a5 k, LeO (expand_Instant.f k a0 a1 a2 a3 a4 a5) (expand_Instant.f (k + 1) a0 a1 a2 a3 a4 a5) := by
 intro a0 a1 a2 a3 a4 a5 k
 have ih0 := expand_Instant.mono_l k
 unfold expand_Instant.f
 repeat' first
   | (with_reducible exact ih0 _ _ _ _ _ _ _)
   | (with_reducible exact LeO.refl _)
   | (with_reducible exact LeO.none _)
   | (with_reducible refine LeO.ite ?_ ?_)
   | (with_reducible refine LeO.bind ?_ (fun _ => ?_))
   | exact ih0 _ _ _ _ _ _ _
   | exact LeO.none _
   | refine LeO.ite ?_ ?_
   | refine LeO.bind ?_ (fun _ => ?_)
set_option maxHeartbeats 8000000 in
set_option maxRecDepth 100000 in
theorem expand_Instant.calls (k : Nat) (A0 : Option Addr) (c0 : Nat) (l0 : List (S53)) (a1_0 : Int) (a1_1 : Int) (a1_2 : Int) (a1_3 : Int) (a2 : Int) (r : Int) (w : World) (hr0 : Kd.C k53 w A0 l0.length l0) (hc0 : l0.length ≤ c0) (h : expand_Instant.f k l0 a1_0 a1_1 a1_2 a1_3 a2 = some r) :
  Calls Try.prog 39 #[.slice A0 l0.length c0, .agg #[.int .i64 a1_0, .int .i64 a1_1, .int .i64 a1_2, .int .i64 a1_3], .int .i64 a2] w fun e w' => e = .returned (.int .i64 r) ∧ Below w.heap.size w w' := by
 have hu84 := Try.underlying84
 have HR0 := aM hr0
 have HC0 := aM hc0
 clear hr0 hc0
 have HB := aM (Below.refl w.heap.size w)
 have H : (if a1_0 < 0 then (expand_Instant.j0 k l0 a2 true a1_0 a1_1 a1_2 a1_3) else (expand_Instant.j0 k l0 a2 (decide (a1_0 ≥ (l0.length : Int))) a1_0 a1_1 a1_2 a1_3)) = some r := h
 clear h
 have HC4 := aM H
 clear H
 go_enter Try.func39, Try.ntmps39
 go_upto_region 1 with (first | ((with_reducible refine gate_dst (N := 4) rfl ?_); (try (refine gate_guard (by rfl) ?_; dsimp only)); refine box_event ?hg (N := 4) ?hd (cs := #[.int .i64 a1_0, .int .i64 a1_1, .int .i64 a1_2, .int .i64 a1_3]) (t := 84) ?hr ?_; (case hd => rfl); (case hg => rfl); (case hr => first | (go_simp; done) | (go_simp; rfl)); intro gb198 hg w5 hbox hb; have n0_ := aM (below_step (by repeat (first | (with_reducible first | exact HB.out | apply lA | apply lN | apply lD) | exact HB.out)) hb); have n1_ := aM (hbox); have n2_ := aM ((by rw [hg]; exact (below_size (by repeat (first | (with_reducible first | exact HB.out | apply lA | apply lN | apply lD) | exact HB.out))) : w.heap.size ≤ gb198)); have n3_ := aM ((by rw [hg]; exact (below_size (by repeat (first | (with_reducible first | exact HB.out | apply lA | apply lN | apply lD) | exact HB.out))) : w.heap.size ≤ gb198)); clear HB; have HB := n0_; have BK198 := n1_; have GW198 := n2_; have GE198 := n3_; clear n0_ n1_ n2_ n3_; clear hb hbox hg))
 (try simp only [Act.put, sA, sZ, sS])
 go_cut [16] (fun v16 wc => ∃ (kq : Nat) (x16_3 : Bool), v16 = .bool x16_3 ∧ Aside0 (expand_Instant.j0 kq l0 a2 x16_3 a1_0 a1_1 a1_2 a1_3 = some r) ∧ Aside0 (kq ≤ k) ∧ Aside0 (wc.heap[gb198]? = some (.cells #[.int .i64 a1_0, .int .i64 a1_1, .int .i64 a1_2, .int .i64 a1_3] 84 (0, 0))) ∧ Aside0 (Below w.heap.size w wc))
 case first =>
  have H := HC4.out
  clear HC4
  by_cases c6 : a1_0 < 0
  ·rw [if_pos c6] at H
   have c6b0 : decide (a1_0 < 0) = true := decide_eq_true c6
   clear c6
   (first | rw [c6b0] | (simp only [i64_w, i32_w]; rw [c6b0]) | skip)
   have H' := aM H
   clear H
   obtain ⟨hcz7_0, hcz7_1, hcz7_2, hcz7_3⟩ := blkC4 BK198.out
   obtain ⟨hfz7_0, hfz7_1, hfz7_2, hfz7_3⟩ := blkF4 BK198.out
   go_wp2
   go_meet
   case rel => exact ⟨_, (true), (by first | rfl | (simp; done) | (simp [*]; done)), H', ⟨by first | omega | exact Nat.le_refl _⟩, ⟨by (with_reducible repeat first | apply bN | apply bD | apply bA); exact BK198.out⟩, ⟨by repeat (first | (with_reducible first | exact HB.out | apply lA | apply lN | apply lD | refine lS ?_ GE198.out) | exact HB.out)⟩⟩
  ·rw [if_neg c6] at H
   have c6b0 : decide (a1_0 < 0) = false := decide_eq_false c6
   clear c6
   (first | rw [c6b0] | (simp only [i64_w, i32_w]; rw [c6b0]) | skip)
   have H' := aM H
   clear H
   obtain ⟨hcz8_0, hcz8_1, hcz8_2, hcz8_3⟩ := blkC4 BK198.out
   obtain ⟨hfz8_0, hfz8_1, hfz8_2, hfz8_3⟩ := blkF4 BK198.out
   go_wp2
   go_meet
   case rel => exact ⟨_, (decide (a1_0 ≥ (l0.length : Int))), (by first | rfl | (simp; done) | (simp [*]; done)), H', ⟨by first | omega | exact Nat.le_refl _⟩, ⟨by (with_reducible repeat first | apply bN | apply bD | apply bA); exact BK198.out⟩, ⟨by repeat (first | (with_reducible first | exact HB.out | apply lA | apply lN | apply lD | refine lS ?_ GE198.out) | exact HB.out)⟩⟩
 case rest =>
  clear HC4
  try clear p2; try clear c3; try clear c6; try clear c6b0; try clear hcz7_0; try clear hcz7_1; try clear hcz7_2; try clear hcz7_3; try clear hcz8_0; try clear hcz8_1; try clear hcz8_2; try clear hcz8_3; try clear hfz7_0; try clear hfz7_1; try clear hfz7_2; try clear hfz7_3; try clear hfz8_0; try clear hfz8_1; try clear hfz8_2; try clear hfz8_3
  obtain ⟨kq, x16_3, rfl, HA, HJ3, BK198, HB⟩ := hcut
  cases kq with
  | zero => exact absurd HA.out (by simp [expand_Instant.j0])
  | succ kj3 =>
   have H := HA.out
   clear HA
   simp only [expand_Instant.j0] at H
   by_cases c9 : x16_3 = true
   ·subst c9
    have H1 : (some 0) = some r := by rw [if_pos rfl] at H; exact H
    clear H
    have H := H1
    clear H1
    obtain rfl := Option.some.inj H
    go_wp2
    go_ret
    exact ⟨by first | rfl | (simp [errW_none, errW_some] <;> rfl) | (simp [*, errW_none, errW_some] <;> rfl), by repeat (first | (with_reducible first | exact HB.out | apply lA | apply lN | apply lD | refine lS ?_ GE198.out) | exact HB.out)⟩
   ·replace c9 := Bool.eq_false_iff.mpr c9
    subst c9
    have H1 : (if 0 ≤ a1_0 then (if a1_0 < (l0.length : Int) then (if ((rd_T53 l0 a1_0).f5.f1) = 0 then (some (wrap64 (a1_2 - (wrap64 (a2 + a1_3))))) else (if ((rd_T53 l0 a1_0).f5.f1) = 1 then (some (wrap64 (a1_2 - a2))) else (some (wrap64 (a1_2 - 0))))) else (none)) else (none)) = some r := by rw [if_neg (show ¬ (false = true) by decide)] at H; exact H
    clear H
    have H := H1
    clear H1
    by_cases c10 : 0 ≤ a1_0
    ·rw [if_pos c10] at H
     have c10b0 : decide (0 ≤ a1_0) = true := decide_eq_true c10
     clear c10
     by_cases c11 : a1_0 < (l0.length : Int)
     ·rw [if_pos c11] at H
      have c11b0 : decide (a1_0 < (l0.length : Int)) = true := decide_eq_true c11
      clear c11
      by_cases c12 : ((rd_T53 l0 a1_0).f5.f1) = 0
      ·rw [if_pos c12] at H
       have c12b0 : (((rd_T53 l0 a1_0).f5.f1) == 0) = true := beq_iff_eq.mpr c12
       have c12b1 : (((rd_T53 l0 a1_0).f5.f1) != 0) = false := bne_eq_false_iff_eq.mpr c12
       clear c12
       obtain rfl := Option.some.inj H
       obtain ⟨hcz13_0, hcz13_1, hcz13_2, hcz13_3⟩ := blkC4 BK198.out
       obtain ⟨hfz13_0, hfz13_1, hfz13_2, hfz13_3⟩ := blkF4 BK198.out
       have p199 : 0 ≤ (a1_0 : Int) := of_decide_eq_true (by assumption)
       have q199 : a1_0 < (l0.length : Int) := of_decide_eq_true (by assumption)
       obtain ⟨ad199, e199, hx199_0, hx199_1, hx199_2, hx199_3, hx199_4, hx199_5, hx199_6, hx199_7, hx199_8, hx199_9, hx199_10⟩ := at_T53 HR0.out a1_0 p199 q199
       cases e199
       replace hx199_0 := (HB.out.cell (wB w _ hx199_0)).trans hx199_0
       replace hx199_1 := (HB.out.cell (wB w _ hx199_1)).trans hx199_1
       replace hx199_2 := (HB.out.cell (wB w _ hx199_2)).trans hx199_2
       replace hx199_3 := (HB.out.cell (wB w _ hx199_3)).trans hx199_3
       replace hx199_4 := (HB.out.cell (wB w _ hx199_4)).trans hx199_4
       replace hx199_5 := (HB.out.cell (wB w _ hx199_5)).trans hx199_5
       replace hx199_6 := (HB.out.cell (wB w _ hx199_6)).trans hx199_6
       replace hx199_7 := (HB.out.cell (wB w _ hx199_7)).trans hx199_7
       replace hx199_8 := (HB.out.cell (wB w _ hx199_8)).trans hx199_8
       replace hx199_9 := (HB.out.cell (wB w _ hx199_9)).trans hx199_9
       replace hx199_10 := (HB.out.cell (wB w _ hx199_10)).trans hx199_10
       replace p199 := eq_true p199
       replace q199 := eq_true q199
       go_wp2
       go_ret
       exact ⟨by first | rfl | (simp [errW_none, errW_some] <;> rfl) | (simp [*, errW_none, errW_some] <;> rfl), by repeat (first | (with_reducible first | exact HB.out | apply lA | apply lN | apply lD | refine lS ?_ GE198.out) | exact HB.out)⟩
      ·rw [if_neg c12] at H
       have c12b0 : (((rd_T53 l0 a1_0).f5.f1) == 0) = false := beq_eq_false_iff_ne.mpr c12
       have c12b1 : (((rd_T53 l0 a1_0).f5.f1) != 0) = true := bne_iff_ne.mpr c12
       by_cases c14 : ((rd_T53 l0 a1_0).f5.f1) = 1
       ·rw [if_pos c14] at H
        have c14b0 : (((rd_T53 l0 a1_0).f5.f1) == 1) = true := beq_iff_eq.mpr c14
        have c14b1 : (((rd_T53 l0 a1_0).f5.f1) != 1) = false := bne_eq_false_iff_eq.mpr c14
        clear c14
        obtain rfl := Option.some.inj H
        obtain ⟨hcz15_0, hcz15_1, hcz15_2, hcz15_3⟩ := blkC4 BK198.out
        obtain ⟨hfz15_0, hfz15_1, hfz15_2, hfz15_3⟩ := blkF4 BK198.out
        have p199 : 0 ≤ (a1_0 : Int) := of_decide_eq_true (by assumption)
        have q199 : a1_0 < (l0.length : Int) := of_decide_eq_true (by assumption)
        obtain ⟨ad199, e199, hx199_0, hx199_1, hx199_2, hx199_3, hx199_4, hx199_5, hx199_6, hx199_7, hx199_8, hx199_9, hx199_10⟩ := at_T53 HR0.out a1_0 p199 q199
        cases e199
        replace hx199_0 := (HB.out.cell (wB w _ hx199_0)).trans hx199_0
        replace hx199_1 := (HB.out.cell (wB w _ hx199_1)).trans hx199_1
        replace hx199_2 := (HB.out.cell (wB w _ hx199_2)).trans hx199_2
        replace hx199_3 := (HB.out.cell (wB w _ hx199_3)).trans hx199_3
        replace hx199_4 := (HB.out.cell (wB w _ hx199_4)).trans hx199_4
        replace hx199_5 := (HB.out.cell (wB w _ hx199_5)).trans hx199_5
        replace hx199_6 := (HB.out.cell (wB w _ hx199_6)).trans hx199_6
        replace hx199_7 := (HB.out.cell (wB w _ hx199_7)).trans hx199_7
        replace hx199_8 := (HB.out.cell (wB w _ hx199_8)).trans hx199_8
        replace hx199_9 := (HB.out.cell (wB w _ hx199_9)).trans hx199_9
        replace hx199_10 := (HB.out.cell (wB w _ hx199_10)).trans hx199_10
        replace p199 := eq_true p199
        replace q199 := eq_true q199
        go_wp2
        go_ret
        exact ⟨by first | rfl | (simp [errW_none, errW_some] <;> rfl) | (simp [*, errW_none, errW_some] <;> rfl), by repeat (first | (with_reducible first | exact HB.out | apply lA | apply lN | apply lD | refine lS ?_ GE198.out) | exact HB.out)⟩
       ·rw [if_neg c14] at H
        have c14b0 : (((rd_T53 l0 a1_0).f5.f1) == 1) = false := beq_eq_false_iff_ne.mpr c14
        have c14b1 : (((rd_T53 l0 a1_0).f5.f1) != 1) = true := bne_iff_ne.mpr c14
        obtain rfl := Option.some.inj H
        obtain ⟨hcz16_0, hcz16_1, hcz16_2, hcz16_3⟩ := blkC4 BK198.out
        obtain ⟨hfz16_0, hfz16_1, hfz16_2, hfz16_3⟩ := blkF4 BK198.out
        have p199 : 0 ≤ (a1_0 : Int) := of_decide_eq_true (by assumption)
        have q199 : a1_0 < (l0.length : Int) := of_decide_eq_true (by assumption)
        obtain ⟨ad199, e199, hx199_0, hx199_1, hx199_2, hx199_3, hx199_4, hx199_5, hx199_6, hx199_7, hx199_8, hx199_9, hx199_10⟩ := at_T53 HR0.out a1_0 p199 q199
        cases e199
        replace hx199_0 := (HB.out.cell (wB w _ hx199_0)).trans hx199_0
        replace hx199_1 := (HB.out.cell (wB w _ hx199_1)).trans hx199_1
        replace hx199_2 := (HB.out.cell (wB w _ hx199_2)).trans hx199_2
        replace hx199_3 := (HB.out.cell (wB w _ hx199_3)).trans hx199_3
        replace hx199_4 := (HB.out.cell (wB w _ hx199_4)).trans hx199_4
        replace hx199_5 := (HB.out.cell (wB w _ hx199_5)).trans hx199_5
        replace hx199_6 := (HB.out.cell (wB w _ hx199_6)).trans hx199_6
        replace hx199_7 := (HB.out.cell (wB w _ hx199_7)).trans hx199_7
        replace hx199_8 := (HB.out.cell (wB w _ hx199_8)).trans hx199_8
        replace hx199_9 := (HB.out.cell (wB w _ hx199_9)).trans hx199_9
        replace hx199_10 := (HB.out.cell (wB w _ hx199_10)).trans hx199_10
        replace p199 := eq_true p199
        replace q199 := eq_true q199
        go_wp2
        go_ret
        exact ⟨by first | rfl | (simp [errW_none, errW_some] <;> rfl) | (simp [*, errW_none, errW_some] <;> rfl), by repeat (first | (with_reducible first | exact HB.out | apply lA | apply lN | apply lD | refine lS ?_ GE198.out) | exact HB.out)⟩
     ·rw [if_neg c11] at H
      exact absurd H (by simp)
    ·rw [if_neg c10] at H
     exact absurd H (by simp)
end Go.Proofs.Ytadamegddcadcaa.PDen
