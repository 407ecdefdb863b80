import Derived.Test.YtadamegddcadcaaPDenx0
import Derived.Test.YtadamegddcadcaaPDenx14
import Derived.Test.YtadamegddcadcaaPDenx15
namespace Go.Proofs.Ytadamegddcadcaa.PDen
open Go.Proofs.YtadamegddcadcaaV Go.RowKit Go.Proofs.YtadamegddcadcaaW.PrintWords Go.Proofs.YtadamegddcadcaaW.PrintLast Go.Proofs.YtadamegddcadcaaW.PrintMore
attribute [local go_sem] max2_int min2_int max_two min_two max_three min_three max_four min_four
set_option linter.unusedVariables false
set_option linter.unusedSimpArgs false
mutual
def den_Right.j0 : Nat → Int → Bool → List (S48) → List (List (S53)) → Option (Int)
 | 0, _, _, _, _ => none
 | k + 1, x3, x24, x249000, x249001 => if x24 = true then (some 1) else (den_Right.l0 k x3 x249000 (x249000.length : Int) 0 x249000 x249001)
def den_Right.l0 : Nat → Int → List (S48) → Int → Int → List (S48) → List (List (S53)) → Option (Int)
 | 0, _, _, _, _, _, _ => none
 | k + 1, x3, x26, x27, x28, x249000, x249001 => if x28 < x27 then (if 0 ≤ x28 then (if x28 < (x26.length : Int) then (if x28 < (x249001.length : Int) then ((den_fits.f k ((rd_T48 x26 x28).f0) ((rd_T48 x26 x28).f1) ((rd_T48 x26 x28).f2) ((rd_T48 x26 x28).f3) ((rd_T48 x26 x28).f4) ((rd_T48 x26 x28).f5.f0) ((rd_T48 x26 x28).f5.f1) ((rd_T48 x26 x28).f5.f2) ((rd_T48 x26 x28).f5.f3.f0) ((rd_T48 x26 x28).f5.f3.f1) ((rd_T48 x26 x28).f5.f3.f2) ((rd_T48 x26 x28).f5.f4.f0) ((rd_T48 x26 x28).f5.f4.f1) (rd_L10 x249001 x28)).bind fun t252 => (if t252 = true then (den_Right.l0 k x3 x26 x27 (wrap64 (x28 + 1)) x249000 x249001) else (some 1))) else (none)) else (none)) else (none)) else (den_Right.l1 k x3 x249000 (x249000.length : Int) 0 x249000 x249001)
def den_Right.l1 : Nat → Int → List (S48) → Int → Int → List (S48) → List (List (S53)) → Option (Int)
 | 0, _, _, _, _, _, _ => none
 | k + 1, x3, x43, x44, x45, x249000, x249001 => if x45 < x44 then (if 0 ≤ x45 then (if x45 < (x43.length : Int) then (if (((rd_T48 x43 x45).f5.f0) == (x45 == (wrap64 (x3 - 1)))) = true then (some 21) else (den_Right.l1 k x3 x43 x44 (wrap64 (x45 + 1)) x249000 x249001)) else (none)) else (none)) else (den_Right.l2 k (mx (wrap64 (x3 - 2)) 0) 0 x249000 x249001)
def den_Right.l2 : Nat → Int → Int → List (S48) → List (List (S53)) → Option (Int)
 | 0, _, _, _, _ => none
 | k + 1, x61, x62, x249000, x249001 => if x62 < x61 then ((den_End.f k x249000 x249001 x62).bind fun t255 => ((den_End.f k x249000 x249001 (wrap64 (x62 + 1))).bind fun t256 => (if t255 ≥ t256 then (some 14) else (den_Right.l2 k x61 (wrap64 (x62 + 1)) x249000 x249001)))) else (some 0)
end
def den_Right.f (k : Nat) (l0_0 : List (S48)) (l0_1 : List (List (S53))) : Option (Int) := if (l0_0.length : Int) = 0 then (den_Right.j0 k (l0_0.length : Int) true l0_0 l0_1) else (if (l0_0.length : Int) > 8 then (den_Right.j0 k (l0_0.length : Int) true l0_0 l0_1) else (den_Right.j0 k (l0_0.length : Int) ((l0_1.length : Int) != (l0_0.length : Int)) l0_0 l0_1))
theorem den_Right.mono_l : ∀ k, (∀ y0 y1 y2 y3, LeO (den_Right.j0 k y0 y1 y2 y3) (den_Right.j0 (k + 1) y0 y1 y2 y3)) ∧ (∀ y0 y1 y2 y3 y4 y5, LeO (den_Right.l0 k y0 y1 y2 y3 y4 y5) (den_Right.l0 (k + 1) y0 y1 y2 y3 y4 y5)) ∧ (∀ y0 y1 y2 y3 y4 y5, LeO (den_Right.l1 k y0 y1 y2 y3 y4 y5) (den_Right.l1 (k + 1) y0 y1 y2 y3 y4 y5)) ∧ (∀ y0 y1 y2 y3, LeO (den_Right.l2 k y0 y1 y2 y3) (den_Right.l2 (k + 1) y0 y1 y2 y3))
 | 0 => ⟨fun _ _ _ _ r h => by simp [den_Right.j0] at h, fun _ _ _ _ _ _ r h => by simp [den_Right.l0] at h, fun _ _ _ _ _ _ r h => by simp [den_Right.l1] at h, fun _ _ _ _ r h => by simp [den_Right.l2] at h⟩
 | k + 1 => by
  obtain ⟨ih0, ih1, ih2, ih3⟩ := den_Right.mono_l k
  refine ⟨?_, ?_, ?_, ?_⟩
  ·intro y0 y1 y2 y3
   unfold den_Right.j0
   repeat' first
   | (with_reducible exact ih0 _ _ _ _)
   | (with_reducible exact ih1 _ _ _ _ _ _)
   | (with_reducible exact ih2 _ _ _ _ _ _)
   | (with_reducible exact ih3 _ _ _ _)
   | (with_reducible exact den_End.mono _ _ _ _)
   | (with_reducible exact den_fits.mono _ _ _ _ _ _ _ _ _ _ _ _ _ _ _)
   | (with_reducible exact LeO.refl _)
   | (with_reducible exact LeO.none _)
   | (with_reducible refine LeO.ite ?_ ?_)
   | (with_reducible refine LeO.bind ?_ (fun _ => ?_))
   | exact ih0 _ _ _ _
   | exact ih1 _ _ _ _ _ _
   | exact ih2 _ _ _ _ _ _
   | exact ih3 _ _ _ _
   | exact den_End.mono _ _ _ _
   | exact den_fits.mono _ _ _ _ _ _ _ _ _ _ _ _ _ _ _
   | exact LeO.none _
   | refine LeO.ite ?_ ?_
   | refine LeO.bind ?_ (fun _ => ?_)
  ·intro y0 y1 y2 y3 y4 y5
   unfold den_Right.l0
   repeat' first
   | (with_reducible exact ih0 _ _ _ _)
   | (with_reducible exact ih1 _ _ _ _ _ _)
   | (with_reducible exact ih2 _ _ _ _ _ _)
   | (with_reducible exact ih3 _ _ _ _)
   | (with_reducible exact den_End.mono _ _ _ _)
   | (with_reducible exact den_fits.mono _ _ _ _ _ _ _ _ _ _ _ _ _ _ _)
   | (with_reducible exact LeO.refl _)
   | (with_reducible exact LeO.none _)
   | (with_reducible refine LeO.ite ?_ ?_)
   | (with_reducible refine LeO.bind ?_ (fun _ => ?_))
   | exact ih0 _ _ _ _
   | exact ih1 _ _ _ _ _ _
   | exact ih2 _ _ _ _ _ _
   | exact ih3 _ _ _ _
   | exact den_End.mono _ _ _ _
   | exact den_fits.mono _ _ _ _ _ _ _ _ _ _ _ _ _ _ _
   | exact LeO.none _
   | refine LeO.ite ?_ ?_
   | refine LeO.bind ?_ (fun _ => ?_)
  ·intro y0 y1 y2 y3 y4 y5
   unfold den_Right.l1
   repeat' first
   | (with_reducible exact ih0 _ _ _ _)
   | (with_reducible exact ih1 _ _ _ _ _ _)
   | (with_reducible exact ih2 _ _ _ _ _ _)
   | (with_reducible exact ih3 _ _ _ _)
   | (with_reducible exact den_End.mono _ _ _ _)
   | (with_reducible exact den_fits.mono _ _ _ _ _ _ _ _ _ _ _ _ _ _ _)
   | (with_reducible exact LeO.refl _)
   | (with_reducible exact LeO.none _)
   | (with_reducible refine LeO.ite ?_ ?_)
   | (with_reducible refine LeO.bind ?_ (fun _ => ?_))
   | exact ih0 _ _ _ _
   | exact ih1 _ _ _ _ _ _
   | exact ih2 _ _ _ _ _ _
   | exact ih3 _ _ _ _
   | exact den_End.mono _ _ _ _
   | exact den_fits.mono _ _ _ _ _ _ _ _ _ _ _ _ _ _ _
   | exact LeO.none _
   | refine LeO.ite ?_ ?_
   | refine LeO.bind ?_ (fun _ => ?_)
  ·intro y0 y1 y2 y3
   unfold den_Right.l2
   repeat' first
   | (with_reducible exact ih0 _ _ _ _)
   | (with_reducible exact ih1 _ _ _ _ _ _)
   | (with_reducible exact ih2 _ _ _ _ _ _)
   | (with_reducible exact ih3 _ _ _ _)
   | (with_reducible exact den_End.mono _ _ _ _)
   | (with_reducible exact den_fits.mono _ _ _ _ _ _ _ _ _ _ _ _ _ _ _)
   | (with_reducible exact LeO.refl _)
   | (with_reducible exact LeO.none _)
   | (with_reducible refine LeO.ite ?_ ?_)
   | (with_reducible refine LeO.bind ?_ (fun _ => ?_))
   | exact ih0 _ _ _ _
   | exact ih1 _ _ _ _ _ _
   | exact ih2 _ _ _ _ _ _
   | exact ih3 _ _ _ _
   | exact den_End.mono _ _ _ _
   | exact den_fits.mono _ _ _ _ _ _ _ _ _ _ _ _ _ _ _
   | exact LeO.none _
   | refine LeO.ite ?_ ?_
   | refine LeO.bind ?_ (fun _ => ?_)
theorem den_Right.mono : ∀ a0 a1 k, LeO (den_Right.f k a0 a1) (den_Right.f (k + 1) a0 a1) := by
 intro a0 a1 k
 obtain ⟨ih0, ih1, ih2, ih3⟩ := den_Right.mono_l k
 unfold den_Right.f
 repeat' first
   | (with_reducible exact ih0 _ _ _ _)
   | (with_reducible exact ih1 _ _ _ _ _ _)
   | (with_reducible exact ih2 _ _ _ _ _ _)
   | (with_reducible exact ih3 _ _ _ _)
   | (with_reducible exact den_End.mono _ _ _ _)
   | (with_reducible exact den_fits.mono _ _ _ _ _ _ _ _ _ _ _ _ _ _ _)
   | (with_reducible exact LeO.refl _)
   | (with_reducible exact LeO.none _)
   | (with_reducible refine LeO.ite ?_ ?_)
   | (with_reducible refine LeO.bind ?_ (fun _ => ?_))
   | exact ih0 _ _ _ _
   | exact ih1 _ _ _ _ _ _
   | exact ih2 _ _ _ _ _ _
   | exact ih3 _ _ _ _
   | exact den_End.mono _ _ _ _
   | exact den_fits.mono _ _ _ _ _ _ _ _ _ _ _ _ _ _ _
   | exact LeO.none _
   | refine LeO.ite ?_ ?_
   | refine LeO.bind ?_ (fun _ => ?_)
def den_Right.T7 : Bool × List (List Nat × List Nat) := (true, [([], []), ([], []), ([1], [1]), ([], []), ([2, 3], [2, 3]), ([4], [4]), ([0, 5], [0, 5]), ([6], [6])])
def den_Right.B7 : List Nat := [0, 0, 2, 0, 14, 30, 63, 127]
theorem den_Right.tab7 : rtab .any (opsOf Try.f13 7) = den_Right.T7 := by kernel_rfl
theorem den_Right.bits7 : waitsOk den_Right.T7.2 den_Right.B7 = true := by kernel_rfl
def den_Right.T19 : Bool × List (List Nat × List Nat) := (true, [([], []), ([], []), ([0, 1], [0, 1]), ([], []), ([], []), ([4], [4]), ([3, 5, 2], [3, 5]), ([2, 6], [2, 6])])
def den_Right.B19 : List Nat := [0, 0, 3, 0, 0, 16, 63, 127]
theorem den_Right.tab19 : rtab .any (opsOf Try.f13 19) = den_Right.T19 := by kernel_rfl
theorem den_Right.bits19 : waitsOk den_Right.T19.2 den_Right.B19 = true := by kernel_rfl
set_option maxHeartbeats 8000000 in
set_option maxRecDepth 100000 in
theorem den_Right.calls (k : Nat) (A0_0 : Option Addr) (c0_0 : Nat) (l0_0 : List (S48)) (A0_1 : Option Addr) (c0_1 : Nat) (l0_1 : List (List (S53))) (r : Int) (w : World) (hr0_0 : Kd.C k48 w A0_0 l0_0.length l0_0) (hc0_0 : l0_0.length ≤ c0_0) (hr0_1 : Kd.C (Kd.slice 53 k53) w A0_1 l0_1.length l0_1) (hc0_1 : l0_1.length ≤ c0_1) (h : den_Right.f k l0_0 l0_1 = some r) :
  Calls Try.prog 13 #[.agg #[.slice A0_0 l0_0.length c0_0, .slice A0_1 l0_1.length c0_1]] w fun e w' => e = .returned (.int .i64 r) ∧ Below w.heap.size w w' := by
 have hu33 := Try.underlying33
 have hu48 := Try.underlying48
 have HR0_0 := aM hr0_0
 have HC0_0 := aM hc0_0
 clear hr0_0 hc0_0
 have HR0_1 := aM hr0_1
 have HC0_1 := aM hc0_1
 clear hr0_1 hc0_1
 have HB := aM (Below.refl w.heap.size w)
 have H : (if (l0_0.length : Int) = 0 then (den_Right.j0 k (l0_0.length : Int) true l0_0 l0_1) else (if (l0_0.length : Int) > 8 then (den_Right.j0 k (l0_0.length : Int) true l0_0 l0_1) else (den_Right.j0 k (l0_0.length : Int) ((l0_1.length : Int) != (l0_0.length : Int)) l0_0 l0_1))) = some r := h
 clear h
 have HC2 := aM H
 clear H
 go_enter Try.func13, Try.ntmps13
 go_upto_region 2 with (first | ((with_reducible refine gate_dst (N := 1) rfl ?_); (try (refine gate_guard (by rfl) ?_; dsimp only)); refine box_event ?hg (N := 1) ?hd (cs := #[.slice A0_0 l0_0.length c0_0, .slice A0_1 l0_1.length c0_1]) (t := 33) ?hr ?_; (case hd => rfl); (case hg => rfl); (case hr => first | (go_simp; done) | (go_simp; rfl)); intro gb248 hg w3 hbox hb; have n0_ := aM (below_step (by repeat (first | (with_reducible first | exact HB.out | apply lA | apply lN | apply lD) | exact HB.out)) hb); have n1_ := aM (hbox); have n2_ := aM ((by rw [hg]; exact (below_size (by repeat (first | (with_reducible first | exact HB.out | apply lA | apply lN | apply lD) | exact HB.out))) : w.heap.size ≤ gb248)); have n3_ := aM ((by rw [hg]; exact (below_size (by repeat (first | (with_reducible first | exact HB.out | apply lA | apply lN | apply lD) | exact HB.out))) : w.heap.size ≤ gb248)); clear HB; have HB := n0_; have BK248 := n1_; have GW248 := n2_; have GE248 := n3_; clear n0_ n1_ n2_ n3_; clear hb hbox hg; obtain ⟨hcz4_0, hcz4_1⟩ := blkC2 BK248.out; obtain ⟨hfz4_0, hfz4_1⟩ := blkF2 BK248.out))
 (try simp only [Act.put, sA, sZ, sS])
 go_cut [24] (fun v24 wc => ∃ (kq : Nat) (x24_1 : Bool), v24 = .bool x24_1 ∧ Aside0 (den_Right.j0 kq (l0_0.length : Int) x24_1 l0_0 l0_1 = some r) ∧ Aside0 (kq ≤ k) ∧ Aside0 (wc.heap[gb248]? = some (.cells #[(.slice A0_0 l0_0.length c0_0), (.slice A0_1 l0_1.length c0_1)] 33 (0, 0))) ∧ Aside0 (Below w.heap.size w wc))
 case first =>
  have H := HC2.out
  clear HC2
  by_cases c5 : (l0_0.length : Int) = 0
  ·rw [if_pos c5] at H
   have c5b0 : ((l0_0.length : Int) == 0) = true := beq_iff_eq.mpr c5
   have c5b1 : ((l0_0.length : Int) != 0) = false := bne_eq_false_iff_eq.mpr c5
   clear c5
   (first | rw [c5b0] | (simp only [i64_w, i32_w]; rw [c5b0]) | skip)
   have H' := aM H
   clear H
   go_wp2
   go_meet
   case rel => exact ⟨_, (true), (by first | rfl | (simp; done) | (simp [*]; done)), H', ⟨by first | omega | exact Nat.le_refl _⟩, ⟨by (with_reducible repeat first | apply bN | apply bD | apply bA); exact BK248.out⟩, ⟨by repeat (first | (with_reducible first | exact HB.out | apply lA | apply lN | apply lD | refine lS ?_ GE248.out) | exact HB.out)⟩⟩
  ·rw [if_neg c5] at H
   have c5b0 : ((l0_0.length : Int) == 0) = false := beq_eq_false_iff_ne.mpr c5
   have c5b1 : ((l0_0.length : Int) != 0) = true := bne_iff_ne.mpr c5
   have c5b2 : ¬ (l0_0 = []) := fun h_ => c5 (by rw [h_]; rfl)
   (first | rw [c5b0] | (simp only [i64_w, i32_w]; rw [c5b0]) | skip)
   by_cases c6 : (l0_0.length : Int) > 8
   ·rw [if_pos c6] at H
    have c6b0 : decide (8 < (l0_0.length : Int)) = true := decide_eq_true c6
    have c6b1 : decide (8 < l0_0.length) = true := decide_eq_true (by omega)
    clear c6
    have H' := aM H
    clear H
    go_wp2
    go_meet
    case rel => exact ⟨_, (true), (by first | rfl | (simp; done) | (simp [*]; done)), H', ⟨by first | omega | exact Nat.le_refl _⟩, ⟨by (with_reducible repeat first | apply bN | apply bD | apply bA); exact BK248.out⟩, ⟨by repeat (first | (with_reducible first | exact HB.out | apply lA | apply lN | apply lD | refine lS ?_ GE248.out) | exact HB.out)⟩⟩
   ·rw [if_neg c6] at H
    have c6b0 : decide (8 < (l0_0.length : Int)) = false := decide_eq_false c6
    have c6b1 : decide (8 < l0_0.length) = false := decide_eq_false (by omega)
    clear c6
    have H' := aM H
    clear H
    obtain ⟨hcz7_0, hcz7_1⟩ := blkC2 BK248.out
    obtain ⟨hfz7_0, hfz7_1⟩ := blkF2 BK248.out
    go_wp2
    go_meet
    case rel => exact ⟨_, (((l0_1.length : Int) != (l0_0.length : Int))), (by first | rfl | (simp; done) | (simp [*]; done)), H', ⟨by first | omega | exact Nat.le_refl _⟩, ⟨by (with_reducible repeat first | apply bN | apply bD | apply bA); exact BK248.out⟩, ⟨by repeat (first | (with_reducible first | exact HB.out | apply lA | apply lN | apply lD | refine lS ?_ GE248.out) | exact HB.out)⟩⟩
 case rest =>
  clear HC2
  try clear c1; try clear p2; try clear c5; try clear c5b0; try clear c5b1; try clear c5b2; try clear c6; try clear c6b0; try clear c6b1; try clear hcz4_0; try clear hcz4_1; try clear hcz7_0; try clear hcz7_1; try clear hfz4_0; try clear hfz4_1; try clear hfz7_0; try clear hfz7_1
  obtain ⟨kq, x24_1, rfl, HA, HJ1, BK248, HB⟩ := hcut
  cases kq with
  | zero => exact absurd HA.out (by simp [den_Right.j0])
  | succ kj1 =>
   have H := HA.out
   clear HA
   simp only [den_Right.j0] at H
   by_cases c8 : x24_1 = true
   ·subst c8
    have H1 : (some 1) = some r := by rw [if_pos rfl] at H; exact H
    clear H
    have H := H1
    clear H1
    obtain rfl := Option.some.inj H
    go_wp2
    go_ret
    exact ⟨by first | rfl | (simp [errW_none, errW_some] <;> rfl) | (simp [*, errW_none, errW_some] <;> rfl), by repeat (first | (with_reducible first | exact HB.out | apply lA | apply lN | apply lD | refine lS ?_ GE248.out) | exact HB.out)⟩
   ·replace c8 := Bool.eq_false_iff.mpr c8
    subst c8
    have H1 : (den_Right.l0 kj1 (l0_0.length : Int) l0_0 (l0_0.length : Int) 0 l0_0 l0_1) = some r := by rw [if_neg (show ¬ (false = true) by decide)] at H; exact H
    clear H
    have H := H1
    clear H1
    have H' := aM H
    clear H
    obtain ⟨hcz9_0, hcz9_1⟩ := blkC2 BK248.out
    obtain ⟨hfz9_0, hfz9_1⟩ := blkF2 BK248.out
    go_wp2
    go_loopg [28] kj1 (fun kq v28 w' => ∃ (x28_2 : Int), v28 = .int .i64 x28_2 ∧ Aside0 (den_Right.l0 kq (l0_0.length : Int) l0_0 (l0_0.length : Int) x28_2 l0_0 l0_1 = some r) ∧ Aside0 (kq ≤ kj1) ∧ Aside0 (w'.heap[gb248]? = some (.cells #[(.slice A0_0 l0_0.length c0_0), (.slice A0_1 l0_1.length c0_1)] 33 (0, 0))) ∧ Aside0 (Below w.heap.size w w'))
    case atStart => exact ⟨(0), (by first | rfl | (simp; done) | (simp [*]; done)), H', ⟨Nat.le_refl _⟩, ⟨by (with_reducible repeat first | apply bN | apply bD | apply bA); exact BK248.out⟩, ⟨by repeat (first | (with_reducible first | exact HB.out | apply lA | apply lN | apply lD | refine lS ?_ GE248.out) | exact HB.out)⟩⟩
    case round =>
     clear H'
     try clear c1; try clear p2; try clear c5; try clear c5b0; try clear c5b1; try clear c5b2; try clear c6; try clear c6b0; try clear c6b1; try clear c8; try clear hcz4_0; try clear hcz4_1; try clear hcz7_0; try clear hcz7_1; try clear hcz9_0; try clear hcz9_1; try clear hfz4_0; try clear hfz4_1; try clear hfz7_0; try clear hfz7_1; try clear hfz9_0; try clear hfz9_1; try clear p2
     obtain ⟨x28_2, rfl, HA, HK2, BK248, HB⟩ := hrel
     cases gk with
     | zero => exact absurd HA.out (by simp [den_Right.l0])
     | succ k2 =>
      have H := HA.out
      clear HA
      simp only [den_Right.l0] at H
      by_cases c10 : x28_2 < (l0_0.length : Int)
      ·rw [if_pos c10] at H
       have c10b0 : decide (x28_2 < (l0_0.length : Int)) = true := decide_eq_true c10
       clear c10
       by_cases c11 : 0 ≤ x28_2
       ·rw [if_pos c11] at H
        have c11b0 : decide (0 ≤ x28_2) = true := decide_eq_true c11
        clear c11
        by_cases c12 : x28_2 < (l0_0.length : Int)
        ·rw [if_pos c12] at H
         have c12b0 : decide (x28_2 < (l0_0.length : Int)) = true := decide_eq_true c12
         clear c12
         by_cases c13 : x28_2 < (l0_1.length : Int)
         ·rw [if_pos c13] at H
          have c13b0 : decide (x28_2 < (l0_1.length : Int)) = true := decide_eq_true c13
          clear c13
          replace H := Option.bind_eq_some_iff.mp H
          obtain ⟨t252, A140, H⟩ := H
          replace H : (if t252 = true then (den_Right.l0 k2 (l0_0.length : Int) l0_0 (l0_0.length : Int) (wrap64 (x28_2 + 1)) l0_0 l0_1) else (some 1)) = some r := H
          have A14 := aM A140
          clear A140
          by_cases c15 : t252 = true
          ·subst c15
           have H1 : (den_Right.l0 k2 (l0_0.length : Int) l0_0 (l0_0.length : Int) (wrap64 (x28_2 + 1)) l0_0 l0_1) = some r := by rw [if_pos rfl] at H; exact H
           clear H
           have H := H1
           clear H1
           have H' := aM H
           clear H
           have p249 : 0 ≤ (x28_2 : Int) := of_decide_eq_true (by assumption)
           have q249 : x28_2 < (l0_0.length : Int) := of_decide_eq_true (by assumption)
           obtain ⟨ad249, e249, hx249_0, hx249_1, hx249_2, hx249_3, hx249_4, hx249_5, hx249_6, hx249_7, hx249_8, hx249_9, hx249_10, hx249_11, hx249_12⟩ := at_T48 HR0_0.out x28_2 p249 q249
           cases e249
           replace hx249_0 := (HB.out.cell (wB w _ hx249_0)).trans hx249_0
           replace hx249_1 := (HB.out.cell (wB w _ hx249_1)).trans hx249_1
           replace hx249_2 := (HB.out.cell (wB w _ hx249_2)).trans hx249_2
           replace hx249_3 := (HB.out.cell (wB w _ hx249_3)).trans hx249_3
           replace hx249_4 := (HB.out.cell (wB w _ hx249_4)).trans hx249_4
           replace hx249_5 := (HB.out.cell (wB w _ hx249_5)).trans hx249_5
           replace hx249_6 := (HB.out.cell (wB w _ hx249_6)).trans hx249_6
           replace hx249_7 := (HB.out.cell (wB w _ hx249_7)).trans hx249_7
           replace hx249_8 := (HB.out.cell (wB w _ hx249_8)).trans hx249_8
           replace hx249_9 := (HB.out.cell (wB w _ hx249_9)).trans hx249_9
           replace hx249_10 := (HB.out.cell (wB w _ hx249_10)).trans hx249_10
           replace hx249_11 := (HB.out.cell (wB w _ hx249_11)).trans hx249_11
           replace hx249_12 := (HB.out.cell (wB w _ hx249_12)).trans hx249_12
           replace p249 := eq_true p249
           replace q249 := eq_true q249
           try go_wp2_with (first | ((with_reducible refine gate_dst (N := 5) rfl ?_); (try (refine gate_guard (by rfl) ?_; dsimp only)); refine box_event ?hg (N := 5) ?hd (cs := #[.int .i64 0, .int .i64 0, .int .i64 0, .string (⟨#[]⟩ : ByteArray), .string (⟨#[]⟩ : ByteArray), .bool false, .int .i64 0, .int .i64 0, .int .i64 0, .int .i64 0, .int .i64 0, .int .i64 0, .int .i64 0]) (t := 48) ?hr ?_; (case hd => rfl); (case hg => rfl); (case hr => first | (go_simp; done) | (go_simp; rfl)); intro gb250 hg w16 hbox hb; have n0_ := aM (blk_below (bX BK248.out) hb); have n1_ := aM (below_step (by repeat (first | (with_reducible first | exact HB.out | apply lA | apply lN | apply lD | refine lS ?_ GE248.out) | exact HB.out)) hb); have n2_ := aM (hbox); have n3_ := aM ((by rw [hg]; exact (below_size (by repeat (first | (with_reducible first | exact HB.out | apply lA | apply lN | apply lD | refine lS ?_ GE248.out) | exact HB.out))) : w.heap.size ≤ gb250)); have n4_ := aM ((by rw [hg]; exact (below_size (by repeat (first | (with_reducible first | exact HB.out | apply lA | apply lN | apply lD | refine lS ?_ GE248.out) | exact HB.out))) : w.heap.size ≤ gb250)); have n5_ := aM ((by rw [hg]; exact Nat.ne_of_lt (blk_lt (bX BK248.out)) : gb248 ≠ gb250)); have n6_ := aM ((by rw [hg]; exact Nat.ne_of_gt (blk_lt (bX BK248.out)) : gb250 ≠ gb248)); clear BK248; clear HB; have BK248 := n0_; have HB := n1_; have BK250 := n2_; have GW250 := n3_; have GE250 := n4_; have NB248_250 := n5_; have NB250_248 := n6_; clear n0_ n1_ n2_ n3_ n4_ n5_ n6_; clear hb hbox hg; have hnb17 := NB250_248.out; have hnc17 := NB248_250.out; obtain ⟨hcz18_0, hcz18_1, hcz18_2, hcz18_3, hcz18_4, hcz18_5, hcz18_6, hcz18_7, hcz18_8, hcz18_9, hcz18_10, hcz18_11, hcz18_12⟩ := blkC13 BK250.out; obtain ⟨hfz18_0, hfz18_1, hfz18_2, hfz18_3, hfz18_4, hfz18_5, hfz18_6, hfz18_7, hfz18_8, hfz18_9, hfz18_10, hfz18_11, hfz18_12⟩ := blkF13 BK250.out))
           have n0_ : Aside0 ((((((((((((((w16.setCell ⟨gb250, 0, none⟩ (.int .i64 ((rd_T48 l0_0 x28_2).f0))).setCell ⟨gb250, 1, none⟩ (.int .i64 ((rd_T48 l0_0 x28_2).f1))).setCell ⟨gb250, 2, none⟩ (.int .i64 ((rd_T48 l0_0 x28_2).f2))).setCell ⟨gb250, 3, none⟩ (.string ((rd_T48 l0_0 x28_2).f3))).setCell ⟨gb250, 4, none⟩ (.string ((rd_T48 l0_0 x28_2).f4))).setCell ⟨gb250, 5, none⟩ (.bool ((rd_T48 l0_0 x28_2).f5.f0))).setCell ⟨gb250, 6, none⟩ (.int .i64 ((rd_T48 l0_0 x28_2).f5.f1))).setCell ⟨gb250, 7, none⟩ (.int .i64 ((rd_T48 l0_0 x28_2).f5.f2))).setCell ⟨gb250, 8, none⟩ (.int .i64 ((rd_T48 l0_0 x28_2).f5.f3.f0))).setCell ⟨gb250, 9, none⟩ (.int .i64 ((rd_T48 l0_0 x28_2).f5.f3.f1))).setCell ⟨gb250, 10, none⟩ (.int .i64 ((rd_T48 l0_0 x28_2).f5.f3.f2))).setCell ⟨gb250, 11, none⟩ (.int .i64 ((rd_T48 l0_0 x28_2).f5.f4.f0))).setCell ⟨gb250, 12, none⟩ (.int .i64 ((rd_T48 l0_0 x28_2).f5.f4.f1))).heap[gb248]? = some (.cells #[.slice (some ad249) l0_0.length c0_0, .slice A0_1 l0_1.length c0_1] 33 (0, 0))) := ⟨by (with_reducible repeat first | apply bN | apply bD | apply bA); refine blk_far ?_ NB248_250.out _; (with_reducible repeat first | apply bN | apply bD | apply bA); refine blk_far ?_ NB248_250.out _; (with_reducible repeat first | apply bN | apply bD | apply bA); refine blk_far ?_ NB248_250.out _; (with_reducible repeat first | apply bN | apply bD | apply bA); refine blk_far ?_ NB248_250.out _; (with_reducible repeat first | apply bN | apply bD | apply bA); refine blk_far ?_ NB248_250.out _; (with_reducible repeat first | apply bN | apply bD | apply bA); refine blk_far ?_ NB248_250.out _; (with_reducible repeat first | apply bN | apply bD | apply bA); refine blk_far ?_ NB248_250.out _; (with_reducible repeat first | apply bN | apply bD | apply bA); refine blk_far ?_ NB248_250.out _; (with_reducible repeat first | apply bN | apply bD | apply bA); refine blk_far ?_ NB248_250.out _; (with_reducible repeat first | apply bN | apply bD | apply bA); refine blk_far ?_ NB248_250.out _; (with_reducible repeat first | apply bN | apply bD | apply bA); refine blk_far ?_ NB248_250.out _; (with_reducible repeat first | apply bN | apply bD | apply bA); refine blk_far ?_ NB248_250.out _; (with_reducible repeat first | apply bN | apply bD | apply bA); refine blk_far ?_ NB248_250.out _; (with_reducible repeat first | apply bN | apply bD | apply bA); exact BK248.out⟩
           have n1_ : Aside0 ((((((((((((((w16.setCell ⟨gb250, 0, none⟩ (.int .i64 ((rd_T48 l0_0 x28_2).f0))).setCell ⟨gb250, 1, none⟩ (.int .i64 ((rd_T48 l0_0 x28_2).f1))).setCell ⟨gb250, 2, none⟩ (.int .i64 ((rd_T48 l0_0 x28_2).f2))).setCell ⟨gb250, 3, none⟩ (.string ((rd_T48 l0_0 x28_2).f3))).setCell ⟨gb250, 4, none⟩ (.string ((rd_T48 l0_0 x28_2).f4))).setCell ⟨gb250, 5, none⟩ (.bool ((rd_T48 l0_0 x28_2).f5.f0))).setCell ⟨gb250, 6, none⟩ (.int .i64 ((rd_T48 l0_0 x28_2).f5.f1))).setCell ⟨gb250, 7, none⟩ (.int .i64 ((rd_T48 l0_0 x28_2).f5.f2))).setCell ⟨gb250, 8, none⟩ (.int .i64 ((rd_T48 l0_0 x28_2).f5.f3.f0))).setCell ⟨gb250, 9, none⟩ (.int .i64 ((rd_T48 l0_0 x28_2).f5.f3.f1))).setCell ⟨gb250, 10, none⟩ (.int .i64 ((rd_T48 l0_0 x28_2).f5.f3.f2))).setCell ⟨gb250, 11, none⟩ (.int .i64 ((rd_T48 l0_0 x28_2).f5.f4.f0))).setCell ⟨gb250, 12, none⟩ (.int .i64 ((rd_T48 l0_0 x28_2).f5.f4.f1))).heap[gb250]? = some (.cells #[.int .i64 ((rd_T48 l0_0 x28_2).f0), .int .i64 ((rd_T48 l0_0 x28_2).f1), .int .i64 ((rd_T48 l0_0 x28_2).f2), .string ((rd_T48 l0_0 x28_2).f3), .string ((rd_T48 l0_0 x28_2).f4), .bool ((rd_T48 l0_0 x28_2).f5.f0), .int .i64 ((rd_T48 l0_0 x28_2).f5.f1), .int .i64 ((rd_T48 l0_0 x28_2).f5.f2), .int .i64 ((rd_T48 l0_0 x28_2).f5.f3.f0), .int .i64 ((rd_T48 l0_0 x28_2).f5.f3.f1), .int .i64 ((rd_T48 l0_0 x28_2).f5.f3.f2), .int .i64 ((rd_T48 l0_0 x28_2).f5.f4.f0), .int .i64 ((rd_T48 l0_0 x28_2).f5.f4.f1)] 48 (0, 0))) := ⟨by (with_reducible repeat first | apply bN | apply bD | apply bA); refine blk_put (cs := #[.int .i64 ((rd_T48 l0_0 x28_2).f0), .int .i64 ((rd_T48 l0_0 x28_2).f1), .int .i64 ((rd_T48 l0_0 x28_2).f2), .string ((rd_T48 l0_0 x28_2).f3), .string ((rd_T48 l0_0 x28_2).f4), .bool ((rd_T48 l0_0 x28_2).f5.f0), .int .i64 ((rd_T48 l0_0 x28_2).f5.f1), .int .i64 ((rd_T48 l0_0 x28_2).f5.f2), .int .i64 ((rd_T48 l0_0 x28_2).f5.f3.f0), .int .i64 ((rd_T48 l0_0 x28_2).f5.f3.f1), .int .i64 ((rd_T48 l0_0 x28_2).f5.f3.f2), .int .i64 ((rd_T48 l0_0 x28_2).f5.f4.f0), .int .i64 0]) ?_ 12 _ rfl; (with_reducible repeat first | apply bN | apply bD | apply bA); refine blk_put (cs := #[.int .i64 ((rd_T48 l0_0 x28_2).f0), .int .i64 ((rd_T48 l0_0 x28_2).f1), .int .i64 ((rd_T48 l0_0 x28_2).f2), .string ((rd_T48 l0_0 x28_2).f3), .string ((rd_T48 l0_0 x28_2).f4), .bool ((rd_T48 l0_0 x28_2).f5.f0), .int .i64 ((rd_T48 l0_0 x28_2).f5.f1), .int .i64 ((rd_T48 l0_0 x28_2).f5.f2), .int .i64 ((rd_T48 l0_0 x28_2).f5.f3.f0), .int .i64 ((rd_T48 l0_0 x28_2).f5.f3.f1), .int .i64 ((rd_T48 l0_0 x28_2).f5.f3.f2), .int .i64 0, .int .i64 0]) ?_ 11 _ rfl; (with_reducible repeat first | apply bN | apply bD | apply bA); refine blk_put (cs := #[.int .i64 ((rd_T48 l0_0 x28_2).f0), .int .i64 ((rd_T48 l0_0 x28_2).f1), .int .i64 ((rd_T48 l0_0 x28_2).f2), .string ((rd_T48 l0_0 x28_2).f3), .string ((rd_T48 l0_0 x28_2).f4), .bool ((rd_T48 l0_0 x28_2).f5.f0), .int .i64 ((rd_T48 l0_0 x28_2).f5.f1), .int .i64 ((rd_T48 l0_0 x28_2).f5.f2), .int .i64 ((rd_T48 l0_0 x28_2).f5.f3.f0), .int .i64 ((rd_T48 l0_0 x28_2).f5.f3.f1), .int .i64 0, .int .i64 0, .int .i64 0]) ?_ 10 _ rfl; (with_reducible repeat first | apply bN | apply bD | apply bA); refine blk_put (cs := #[.int .i64 ((rd_T48 l0_0 x28_2).f0), .int .i64 ((rd_T48 l0_0 x28_2).f1), .int .i64 ((rd_T48 l0_0 x28_2).f2), .string ((rd_T48 l0_0 x28_2).f3), .string ((rd_T48 l0_0 x28_2).f4), .bool ((rd_T48 l0_0 x28_2).f5.f0), .int .i64 ((rd_T48 l0_0 x28_2).f5.f1), .int .i64 ((rd_T48 l0_0 x28_2).f5.f2), .int .i64 ((rd_T48 l0_0 x28_2).f5.f3.f0), .int .i64 0, .int .i64 0, .int .i64 0, .int .i64 0]) ?_ 9 _ rfl; (with_reducible repeat first | apply bN | apply bD | apply bA); refine blk_put (cs := #[.int .i64 ((rd_T48 l0_0 x28_2).f0), .int .i64 ((rd_T48 l0_0 x28_2).f1), .int .i64 ((rd_T48 l0_0 x28_2).f2), .string ((rd_T48 l0_0 x28_2).f3), .string ((rd_T48 l0_0 x28_2).f4), .bool ((rd_T48 l0_0 x28_2).f5.f0), .int .i64 ((rd_T48 l0_0 x28_2).f5.f1), .int .i64 ((rd_T48 l0_0 x28_2).f5.f2), .int .i64 0, .int .i64 0, .int .i64 0, .int .i64 0, .int .i64 0]) ?_ 8 _ rfl; (with_reducible repeat first | apply bN | apply bD | apply bA); refine blk_put (cs := #[.int .i64 ((rd_T48 l0_0 x28_2).f0), .int .i64 ((rd_T48 l0_0 x28_2).f1), .int .i64 ((rd_T48 l0_0 x28_2).f2), .string ((rd_T48 l0_0 x28_2).f3), .string ((rd_T48 l0_0 x28_2).f4), .bool ((rd_T48 l0_0 x28_2).f5.f0), .int .i64 ((rd_T48 l0_0 x28_2).f5.f1), .int .i64 0, .int .i64 0, .int .i64 0, .int .i64 0, .int .i64 0, .int .i64 0]) ?_ 7 _ rfl; (with_reducible repeat first | apply bN | apply bD | apply bA); refine blk_put (cs := #[.int .i64 ((rd_T48 l0_0 x28_2).f0), .int .i64 ((rd_T48 l0_0 x28_2).f1), .int .i64 ((rd_T48 l0_0 x28_2).f2), .string ((rd_T48 l0_0 x28_2).f3), .string ((rd_T48 l0_0 x28_2).f4), .bool ((rd_T48 l0_0 x28_2).f5.f0), .int .i64 0, .int .i64 0, .int .i64 0, .int .i64 0, .int .i64 0, .int .i64 0, .int .i64 0]) ?_ 6 _ rfl; (with_reducible repeat first | apply bN | apply bD | apply bA); refine blk_put (cs := #[.int .i64 ((rd_T48 l0_0 x28_2).f0), .int .i64 ((rd_T48 l0_0 x28_2).f1), .int .i64 ((rd_T48 l0_0 x28_2).f2), .string ((rd_T48 l0_0 x28_2).f3), .string ((rd_T48 l0_0 x28_2).f4), .bool false, .int .i64 0, .int .i64 0, .int .i64 0, .int .i64 0, .int .i64 0, .int .i64 0, .int .i64 0]) ?_ 5 _ rfl; (with_reducible repeat first | apply bN | apply bD | apply bA); refine blk_put (cs := #[.int .i64 ((rd_T48 l0_0 x28_2).f0), .int .i64 ((rd_T48 l0_0 x28_2).f1), .int .i64 ((rd_T48 l0_0 x28_2).f2), .string ((rd_T48 l0_0 x28_2).f3), .string (⟨#[]⟩ : ByteArray), .bool false, .int .i64 0, .int .i64 0, .int .i64 0, .int .i64 0, .int .i64 0, .int .i64 0, .int .i64 0]) ?_ 4 _ rfl; (with_reducible repeat first | apply bN | apply bD | apply bA); refine blk_put (cs := #[.int .i64 ((rd_T48 l0_0 x28_2).f0), .int .i64 ((rd_T48 l0_0 x28_2).f1), .int .i64 ((rd_T48 l0_0 x28_2).f2), .string (⟨#[]⟩ : ByteArray), .string (⟨#[]⟩ : ByteArray), .bool false, .int .i64 0, .int .i64 0, .int .i64 0, .int .i64 0, .int .i64 0, .int .i64 0, .int .i64 0]) ?_ 3 _ rfl; (with_reducible repeat first | apply bN | apply bD | apply bA); refine blk_put (cs := #[.int .i64 ((rd_T48 l0_0 x28_2).f0), .int .i64 ((rd_T48 l0_0 x28_2).f1), .int .i64 0, .string (⟨#[]⟩ : ByteArray), .string (⟨#[]⟩ : ByteArray), .bool false, .int .i64 0, .int .i64 0, .int .i64 0, .int .i64 0, .int .i64 0, .int .i64 0, .int .i64 0]) ?_ 2 _ rfl; (with_reducible repeat first | apply bN | apply bD | apply bA); refine blk_put (cs := #[.int .i64 ((rd_T48 l0_0 x28_2).f0), .int .i64 0, .int .i64 0, .string (⟨#[]⟩ : ByteArray), .string (⟨#[]⟩ : ByteArray), .bool false, .int .i64 0, .int .i64 0, .int .i64 0, .int .i64 0, .int .i64 0, .int .i64 0, .int .i64 0]) ?_ 1 _ rfl; (with_reducible repeat first | apply bN | apply bD | apply bA); refine blk_put (cs := #[.int .i64 0, .int .i64 0, .int .i64 0, .string (⟨#[]⟩ : ByteArray), .string (⟨#[]⟩ : ByteArray), .bool false, .int .i64 0, .int .i64 0, .int .i64 0, .int .i64 0, .int .i64 0, .int .i64 0, .int .i64 0]) ?_ 0 _ rfl; (with_reducible repeat first | apply bN | apply bD | apply bA); exact BK250.out⟩
           have n2_ : Aside0 (Below w.heap.size w (((((((((((((w16.setCell ⟨gb250, 0, none⟩ (.int .i64 ((rd_T48 l0_0 x28_2).f0))).setCell ⟨gb250, 1, none⟩ (.int .i64 ((rd_T48 l0_0 x28_2).f1))).setCell ⟨gb250, 2, none⟩ (.int .i64 ((rd_T48 l0_0 x28_2).f2))).setCell ⟨gb250, 3, none⟩ (.string ((rd_T48 l0_0 x28_2).f3))).setCell ⟨gb250, 4, none⟩ (.string ((rd_T48 l0_0 x28_2).f4))).setCell ⟨gb250, 5, none⟩ (.bool ((rd_T48 l0_0 x28_2).f5.f0))).setCell ⟨gb250, 6, none⟩ (.int .i64 ((rd_T48 l0_0 x28_2).f5.f1))).setCell ⟨gb250, 7, none⟩ (.int .i64 ((rd_T48 l0_0 x28_2).f5.f2))).setCell ⟨gb250, 8, none⟩ (.int .i64 ((rd_T48 l0_0 x28_2).f5.f3.f0))).setCell ⟨gb250, 9, none⟩ (.int .i64 ((rd_T48 l0_0 x28_2).f5.f3.f1))).setCell ⟨gb250, 10, none⟩ (.int .i64 ((rd_T48 l0_0 x28_2).f5.f3.f2))).setCell ⟨gb250, 11, none⟩ (.int .i64 ((rd_T48 l0_0 x28_2).f5.f4.f0))).setCell ⟨gb250, 12, none⟩ (.int .i64 ((rd_T48 l0_0 x28_2).f5.f4.f1)))) := ⟨by repeat (first | (with_reducible first | exact HB.out | apply lA | apply lN | apply lD | refine lS ?_ GE248.out | refine lS ?_ GE250.out) | exact HB.out)⟩
           (try clear BK248)
           (try clear BK250)
           (try clear HB)
           generalize (((((((((((((w16.setCell ⟨gb250, 0, none⟩ (.int .i64 ((rd_T48 l0_0 x28_2).f0))).setCell ⟨gb250, 1, none⟩ (.int .i64 ((rd_T48 l0_0 x28_2).f1))).setCell ⟨gb250, 2, none⟩ (.int .i64 ((rd_T48 l0_0 x28_2).f2))).setCell ⟨gb250, 3, none⟩ (.string ((rd_T48 l0_0 x28_2).f3))).setCell ⟨gb250, 4, none⟩ (.string ((rd_T48 l0_0 x28_2).f4))).setCell ⟨gb250, 5, none⟩ (.bool ((rd_T48 l0_0 x28_2).f5.f0))).setCell ⟨gb250, 6, none⟩ (.int .i64 ((rd_T48 l0_0 x28_2).f5.f1))).setCell ⟨gb250, 7, none⟩ (.int .i64 ((rd_T48 l0_0 x28_2).f5.f2))).setCell ⟨gb250, 8, none⟩ (.int .i64 ((rd_T48 l0_0 x28_2).f5.f3.f0))).setCell ⟨gb250, 9, none⟩ (.int .i64 ((rd_T48 l0_0 x28_2).f5.f3.f1))).setCell ⟨gb250, 10, none⟩ (.int .i64 ((rd_T48 l0_0 x28_2).f5.f3.f2))).setCell ⟨gb250, 11, none⟩ (.int .i64 ((rd_T48 l0_0 x28_2).f5.f4.f0))).setCell ⟨gb250, 12, none⟩ (.int .i64 ((rd_T48 l0_0 x28_2).f5.f4.f1))) = w19 at n0_ n1_ n2_ ⊢
           have BK248 := n0_
           have BK250 := n1_
           have HB := n2_
           clear n0_ n1_ n2_
           have n0_ := aM (blk_drew BK248.out)
           have n1_ := aM (blk_drew BK250.out)
           have n2_ := aM (lD HB.out)
           clear BK248
           clear BK250
           clear HB
           have BK248 := n0_
           have BK250 := n1_
           have HB := n2_
           clear n0_ n1_ n2_
           have p251 : 0 ≤ (x28_2 : Int) := of_decide_eq_true (by assumption)
           have q251 : x28_2 < (l0_1.length : Int) := of_decide_eq_true (by assumption)
           obtain ⟨ad251, A251_0, c251_0, e251, hx251_0, hl251_0, hi251_0⟩ := at_L10 HR0_1.out x28_2 p251 q251
           have hw251_0 := hx251_0
           cases e251
           replace hx251_0 := (HB.out.cell (wB w _ hx251_0)).trans hx251_0
           have HR251_0 := aM hi251_0
           have HC251_0 := aM hl251_0
           clear hi251_0 hl251_0
           replace p251 := eq_true p251
           replace q251 := eq_true q251
           refine start_ (n := 8) (S := fun w' => w'.cell? ⟨gb250, 0, none⟩ = some (.int .i64 ((rd_T48 l0_0 x28_2).f0)) ∧ w'.cell? ⟨gb250, 1, none⟩ = some (.int .i64 ((rd_T48 l0_0 x28_2).f1)) ∧ w'.cell? ⟨gb250, 2, none⟩ = some (.int .i64 ((rd_T48 l0_0 x28_2).f2)) ∧ w'.cell? ⟨gb250, 3, none⟩ = some (.string ((rd_T48 l0_0 x28_2).f3)) ∧ w'.cell? ⟨gb250, 4, none⟩ = some (.string ((rd_T48 l0_0 x28_2).f4)) ∧ w'.cell? ⟨gb250, 5, none⟩ = some (.bool ((rd_T48 l0_0 x28_2).f5.f0)) ∧ w'.cell? ⟨gb250, 6, none⟩ = some (.int .i64 ((rd_T48 l0_0 x28_2).f5.f1)) ∧ w'.cell? ⟨gb250, 7, none⟩ = some (.int .i64 ((rd_T48 l0_0 x28_2).f5.f2)) ∧ w'.cell? ⟨gb250, 8, none⟩ = some (.int .i64 ((rd_T48 l0_0 x28_2).f5.f3.f0)) ∧ w'.cell? ⟨gb250, 9, none⟩ = some (.int .i64 ((rd_T48 l0_0 x28_2).f5.f3.f1)) ∧ w'.cell? ⟨gb250, 10, none⟩ = some (.int .i64 ((rd_T48 l0_0 x28_2).f5.f3.f2)) ∧ w'.cell? ⟨gb250, 11, none⟩ = some (.int .i64 ((rd_T48 l0_0 x28_2).f5.f4.f0)) ∧ w'.cell? ⟨gb250, 12, none⟩ = some (.int .i64 ((rd_T48 l0_0 x28_2).f5.f4.f1)) ∧ w'.cell? ⟨gb248, 0, none⟩ = some (.slice (some ad249) l0_0.length c0_0) ∧ w'.cell? ⟨gb248, 1, none⟩ = some (.slice (some ad251) l0_1.length c0_1) ∧ w'.cell? (ad251.add (x28_2).toNat) = some (.slice A251_0 (rd_L10 l0_1 x28_2).length c251_0)) (ds := []) #[false, false, false, false, false, false, false, false] (by kernel_rfl) rfl rfl ⟨(blk_cell BK250.out 0).trans rfl, (blk_cell BK250.out 1).trans rfl, (blk_cell BK250.out 2).trans rfl, (blk_cell BK250.out 3).trans rfl, (blk_cell BK250.out 4).trans rfl, (blk_cell BK250.out 5).trans rfl, (blk_cell BK250.out 6).trans rfl, (blk_cell BK250.out 7).trans rfl, (blk_cell BK250.out 8).trans rfl, (blk_cell BK250.out 9).trans rfl, (blk_cell BK250.out 10).trans rfl, (blk_cell BK250.out 11).trans rfl, (blk_cell BK250.out 12).trans rfl, (blk_cell BK248.out 0).trans rfl, (blk_cell BK248.out 1).trans rfl, ((HB.out.cell (wB w _ hw251_0)).trans hw251_0)⟩ (fun hHeld => ?_); refine with_tabW den_Right.tab7 den_Right.bits7 (fun HT_ HW_ => ?_)
           generalize w19.drew = w20 at BK248 BK250 HB HR251_0 hx251_0 hHeld ⊢
           refine pure_ (i := 1) (N := some 34) (v := ?_) (a' := ?_) #[false, true, false, false, false, false, false, false] rfl rfl (any_of HT_.out (by kernel_rfl)) (fun _ _ _ h => h) (Or.inl ⟨by rfl, ?_⟩) ?_ ?_
           rotate_left
           ·intro w'
            go_simp
            with_reducible rfl
           rotate_left
           ·simp only [Act.put, sA, sZ, sS, i64_w, i32_w]
            rfl
           refine pure_ (i := 3) (N := some 36) (v := ?_) (a' := ?_) #[false, true, false, true, false, false, false, false] rfl rfl (any_of HT_.out (by kernel_rfl)) (fun _ _ _ h => h) (Or.inl ⟨by rfl, ?_⟩) ?_ ?_
           rotate_left
           ·intro w'
            go_simp
            with_reducible rfl
           rotate_left
           ·simp only [Act.put, sA, sZ, sS, i64_w, i32_w]
            rfl
           refine take_ (i := 0) (N := some 33) (v := ?_) (a' := ?_) #[true, true, false, true, false, false, false, false] rfl rfl (take_ofW HT_.out HW_.out (by kernel_rfl)) (fun _ _ _ h => h) (Or.inl ⟨by rfl, ?_⟩) hHeld ?_ ?_
           rotate_left
           ·rintro w' ⟨s0, s1, s2, s3, s4, s5, s6, s7, s8, s9, s10, s11, s12, s13, s14, s15⟩
            go_simp
            with_reducible rfl
           rotate_left
           ·simp only [Act.put, sA, sZ, sS, i64_w, i32_w]
            rfl
           refine take_ (i := 2) (N := some 35) (v := ?_) (a' := ?_) #[true, true, true, true, false, false, false, false] rfl rfl (take_ofW HT_.out HW_.out (by kernel_rfl)) (fun _ _ _ h => h) (Or.inl ⟨by rfl, ?_⟩) hHeld ?_ ?_
           rotate_left
           ·rintro w' ⟨s0, s1, s2, s3, s4, s5, s6, s7, s8, s9, s10, s11, s12, s13, s14, s15⟩
            go_simp
            with_reducible rfl
           rotate_left
           ·simp only [Act.put, sA, sZ, sS, i64_w, i32_w]
            rfl
           refine pure_ (i := 4) (N := some 37) (v := ?_) (a' := ?_) #[true, true, true, true, true, false, false, false] rfl rfl (any_of HT_.out (by kernel_rfl)) (fun _ _ _ h => h) (Or.inl ⟨by rfl, ?_⟩) ?_ ?_
           rotate_left
           ·intro w'
            go_simp
            with_reducible rfl
           rotate_left
           ·simp only [Act.put, sA, sZ, sS, i64_w, i32_w]
            rfl
           refine take_ (i := 5) (N := some 38) (v := ?_) (a' := ?_) #[true, true, true, true, true, true, false, false] rfl rfl (take_ofW HT_.out HW_.out (by kernel_rfl)) (fun _ _ _ h => h) (Or.inl ⟨by rfl, ?_⟩) hHeld ?_ ?_
           rotate_left
           ·rintro w' ⟨s0, s1, s2, s3, s4, s5, s6, s7, s8, s9, s10, s11, s12, s13, s14, s15⟩
            go_simp
            with_reducible rfl
           rotate_left
           ·simp only [Act.put, sA, sZ, sS, i64_w, i32_w]
            rfl
           refine one_ (i := 6) (N := some 39) #[true, true, true, true, true, true, true, false] rfl rfl (one_of HT_.out (by kernel_rfl)) (by decide) (fun K hK => ?_)
           refine goes_ Try.func21 (by kernel_rfl) rfl #[.agg #[.int .i64 ((rd_T48 l0_0 x28_2).f0), .int .i64 ((rd_T48 l0_0 x28_2).f1), .int .i64 ((rd_T48 l0_0 x28_2).f2), .string ((rd_T48 l0_0 x28_2).f3), .string ((rd_T48 l0_0 x28_2).f4), .bool ((rd_T48 l0_0 x28_2).f5.f0), .int .i64 ((rd_T48 l0_0 x28_2).f5.f1), .int .i64 ((rd_T48 l0_0 x28_2).f5.f2), .int .i64 ((rd_T48 l0_0 x28_2).f5.f3.f0), .int .i64 ((rd_T48 l0_0 x28_2).f5.f3.f1), .int .i64 ((rd_T48 l0_0 x28_2).f5.f3.f2), .int .i64 ((rd_T48 l0_0 x28_2).f5.f4.f0), .int .i64 ((rd_T48 l0_0 x28_2).f5.f4.f1)], .slice A251_0 (rd_L10 l0_1 x28_2).length c251_0] (by rfl) rfl rfl (by (try simp only [List.map_toArray, List.map_cons, List.map_nil]); first | done | rfl | (simp only [List.length_drop, List.length_take]; rfl)) ?_
           with_reducible refine (den_fits.calls k2 ((rd_T48 l0_0 x28_2).f0) ((rd_T48 l0_0 x28_2).f1) ((rd_T48 l0_0 x28_2).f2) ((rd_T48 l0_0 x28_2).f3) ((rd_T48 l0_0 x28_2).f4) ((rd_T48 l0_0 x28_2).f5.f0) ((rd_T48 l0_0 x28_2).f5.f1) ((rd_T48 l0_0 x28_2).f5.f2) ((rd_T48 l0_0 x28_2).f5.f3.f0) ((rd_T48 l0_0 x28_2).f5.f3.f1) ((rd_T48 l0_0 x28_2).f5.f3.f2) ((rd_T48 l0_0 x28_2).f5.f4.f0) ((rd_T48 l0_0 x28_2).f5.f4.f1) _ _ (rd_L10 l0_1 x28_2) true _ ?side1 ?side2 A14.out).mono ?_
           (case side1 => repeat (first | exact (Kd.C_below HR251_0.out HB.out) | (with_reducible refine Kd.C_alloc ?_ _) | (with_reducible refine Kd.C_drewN ?_ _) | (with_reducible refine Kd.C_drew ?_)))
           (case side2 => exact HC251_0.out)
           rintro e w21 ⟨rfl, hb⟩
           refine ⟨_, rfl, ?_⟩
           have n0_ := aM (blk_below (bX BK248.out) hb)
           have n1_ := aM (blk_below (bX BK250.out) hb)
           have n2_ := aM (below_step (by repeat (first | (with_reducible first | exact HB.out | apply lA | apply lN | apply lD | refine lS ?_ GE248.out | refine lS ?_ GE250.out) | exact HB.out)) hb)
           clear BK248
           clear BK250
           clear HB
           have BK248 := n0_
           have BK250 := n1_
           have HB := n2_
           clear n0_ n1_ n2_
           (try clear hb)
           (try clear hb2)
           (try clear hk)
           (try clear hi)
           refine hK.out _ _ ⟨(blk_cell BK250.out 0).trans rfl, (blk_cell BK250.out 1).trans rfl, (blk_cell BK250.out 2).trans rfl, (blk_cell BK250.out 3).trans rfl, (blk_cell BK250.out 4).trans rfl, (blk_cell BK250.out 5).trans rfl, (blk_cell BK250.out 6).trans rfl, (blk_cell BK250.out 7).trans rfl, (blk_cell BK250.out 8).trans rfl, (blk_cell BK250.out 9).trans rfl, (blk_cell BK250.out 10).trans rfl, (blk_cell BK250.out 11).trans rfl, (blk_cell BK250.out 12).trans rfl, (blk_cell BK248.out 0).trans rfl, (blk_cell BK248.out 1).trans rfl, ((HB.out.cell (wB w _ hw251_0)).trans hw251_0)⟩ (fun hHeld => ?_)
           clear hK K
           refine norm_ (a' := ?_) ?_ ?_
           rotate_left
           ·show Act.put _ (some 39) _ = _
            simp only [Act.put, sA, sZ, sS, i64_w, i32_w]
            rfl
           refine pure_ (i := 7) (N := some 40) (v := ?_) (a' := ?_) #[true, true, true, true, true, true, true, true] rfl rfl (any_of HT_.out (by kernel_rfl)) (fun _ _ _ h => h) (Or.inl ⟨by rfl, ?_⟩) ?_ ?_
           rotate_left
           ·intro w'
            go_simp
            with_reducible rfl
           rotate_left
           ·simp only [Act.put, sA, sZ, sS, i64_w, i32_w]
            rfl
           refine done_ (done_of HT_.out (by kernel_rfl)) ?_
           try go_wp2
           go_roundg k2
           case measure => have := HJ1.out; have := HK2.out; omega
           case rel => exact ⟨(wrap64 (x28_2 + 1)), (by first | rfl | (simp; done) | (simp [*]; done)), H', ⟨by have := HJ1.out; have := HK2.out; omega⟩, ⟨by (with_reducible repeat first | apply bN | apply bD | apply bA); exact BK248.out⟩, ⟨by repeat (first | (with_reducible first | exact HB.out | apply lA | apply lN | apply lD | refine lS ?_ GE248.out | refine lS ?_ GE250.out) | exact HB.out)⟩⟩
          ·replace c15 := Bool.eq_false_iff.mpr c15
           subst c15
           have H1 : (some 1) = some r := by rw [if_neg (show ¬ (false = true) by decide)] at H; exact H
           clear H
           have H := H1
           clear H1
           obtain rfl := Option.some.inj H
           have p249 : 0 ≤ (x28_2 : Int) := of_decide_eq_true (by assumption)
           have q249 : x28_2 < (l0_0.length : Int) := of_decide_eq_true (by assumption)
           obtain ⟨ad249, e249, hx249_0, hx249_1, hx249_2, hx249_3, hx249_4, hx249_5, hx249_6, hx249_7, hx249_8, hx249_9, hx249_10, hx249_11, hx249_12⟩ := at_T48 HR0_0.out x28_2 p249 q249
           cases e249
           replace hx249_0 := (HB.out.cell (wB w _ hx249_0)).trans hx249_0
           replace hx249_1 := (HB.out.cell (wB w _ hx249_1)).trans hx249_1
           replace hx249_2 := (HB.out.cell (wB w _ hx249_2)).trans hx249_2
           replace hx249_3 := (HB.out.cell (wB w _ hx249_3)).trans hx249_3
           replace hx249_4 := (HB.out.cell (wB w _ hx249_4)).trans hx249_4
           replace hx249_5 := (HB.out.cell (wB w _ hx249_5)).trans hx249_5
           replace hx249_6 := (HB.out.cell (wB w _ hx249_6)).trans hx249_6
           replace hx249_7 := (HB.out.cell (wB w _ hx249_7)).trans hx249_7
           replace hx249_8 := (HB.out.cell (wB w _ hx249_8)).trans hx249_8
           replace hx249_9 := (HB.out.cell (wB w _ hx249_9)).trans hx249_9
           replace hx249_10 := (HB.out.cell (wB w _ hx249_10)).trans hx249_10
           replace hx249_11 := (HB.out.cell (wB w _ hx249_11)).trans hx249_11
           replace hx249_12 := (HB.out.cell (wB w _ hx249_12)).trans hx249_12
           replace p249 := eq_true p249
           replace q249 := eq_true q249
           try go_wp2_with (first | ((with_reducible refine gate_dst (N := 5) rfl ?_); (try (refine gate_guard (by rfl) ?_; dsimp only)); refine box_event ?hg (N := 5) ?hd (cs := #[.int .i64 0, .int .i64 0, .int .i64 0, .string (⟨#[]⟩ : ByteArray), .string (⟨#[]⟩ : ByteArray), .bool false, .int .i64 0, .int .i64 0, .int .i64 0, .int .i64 0, .int .i64 0, .int .i64 0, .int .i64 0]) (t := 48) ?hr ?_; (case hd => rfl); (case hg => rfl); (case hr => first | (go_simp; done) | (go_simp; rfl)); intro gb250 hg w22 hbox hb; have n0_ := aM (blk_below (bX BK248.out) hb); have n1_ := aM (below_step (by repeat (first | (with_reducible first | exact HB.out | apply lA | apply lN | apply lD | refine lS ?_ GE248.out) | exact HB.out)) hb); have n2_ := aM (hbox); have n3_ := aM ((by rw [hg]; exact (below_size (by repeat (first | (with_reducible first | exact HB.out | apply lA | apply lN | apply lD | refine lS ?_ GE248.out) | exact HB.out))) : w.heap.size ≤ gb250)); have n4_ := aM ((by rw [hg]; exact (below_size (by repeat (first | (with_reducible first | exact HB.out | apply lA | apply lN | apply lD | refine lS ?_ GE248.out) | exact HB.out))) : w.heap.size ≤ gb250)); have n5_ := aM ((by rw [hg]; exact Nat.ne_of_lt (blk_lt (bX BK248.out)) : gb248 ≠ gb250)); have n6_ := aM ((by rw [hg]; exact Nat.ne_of_gt (blk_lt (bX BK248.out)) : gb250 ≠ gb248)); clear BK248; clear HB; have BK248 := n0_; have HB := n1_; have BK250 := n2_; have GW250 := n3_; have GE250 := n4_; have NB248_250 := n5_; have NB250_248 := n6_; clear n0_ n1_ n2_ n3_ n4_ n5_ n6_; clear hb hbox hg; have hnb23 := NB250_248.out; have hnc23 := NB248_250.out; obtain ⟨hcz24_0, hcz24_1, hcz24_2, hcz24_3, hcz24_4, hcz24_5, hcz24_6, hcz24_7, hcz24_8, hcz24_9, hcz24_10, hcz24_11, hcz24_12⟩ := blkC13 BK250.out; obtain ⟨hfz24_0, hfz24_1, hfz24_2, hfz24_3, hfz24_4, hfz24_5, hfz24_6, hfz24_7, hfz24_8, hfz24_9, hfz24_10, hfz24_11, hfz24_12⟩ := blkF13 BK250.out))
           have n0_ : Aside0 ((((((((((((((w22.setCell ⟨gb250, 0, none⟩ (.int .i64 ((rd_T48 l0_0 x28_2).f0))).setCell ⟨gb250, 1, none⟩ (.int .i64 ((rd_T48 l0_0 x28_2).f1))).setCell ⟨gb250, 2, none⟩ (.int .i64 ((rd_T48 l0_0 x28_2).f2))).setCell ⟨gb250, 3, none⟩ (.string ((rd_T48 l0_0 x28_2).f3))).setCell ⟨gb250, 4, none⟩ (.string ((rd_T48 l0_0 x28_2).f4))).setCell ⟨gb250, 5, none⟩ (.bool ((rd_T48 l0_0 x28_2).f5.f0))).setCell ⟨gb250, 6, none⟩ (.int .i64 ((rd_T48 l0_0 x28_2).f5.f1))).setCell ⟨gb250, 7, none⟩ (.int .i64 ((rd_T48 l0_0 x28_2).f5.f2))).setCell ⟨gb250, 8, none⟩ (.int .i64 ((rd_T48 l0_0 x28_2).f5.f3.f0))).setCell ⟨gb250, 9, none⟩ (.int .i64 ((rd_T48 l0_0 x28_2).f5.f3.f1))).setCell ⟨gb250, 10, none⟩ (.int .i64 ((rd_T48 l0_0 x28_2).f5.f3.f2))).setCell ⟨gb250, 11, none⟩ (.int .i64 ((rd_T48 l0_0 x28_2).f5.f4.f0))).setCell ⟨gb250, 12, none⟩ (.int .i64 ((rd_T48 l0_0 x28_2).f5.f4.f1))).heap[gb248]? = some (.cells #[.slice (some ad249) l0_0.length c0_0, .slice A0_1 l0_1.length c0_1] 33 (0, 0))) := ⟨by (with_reducible repeat first | apply bN | apply bD | apply bA); refine blk_far ?_ NB248_250.out _; (with_reducible repeat first | apply bN | apply bD | apply bA); refine blk_far ?_ NB248_250.out _; (with_reducible repeat first | apply bN | apply bD | apply bA); refine blk_far ?_ NB248_250.out _; (with_reducible repeat first | apply bN | apply bD | apply bA); refine blk_far ?_ NB248_250.out _; (with_reducible repeat first | apply bN | apply bD | apply bA); refine blk_far ?_ NB248_250.out _; (with_reducible repeat first | apply bN | apply bD | apply bA); refine blk_far ?_ NB248_250.out _; (with_reducible repeat first | apply bN | apply bD | apply bA); refine blk_far ?_ NB248_250.out _; (with_reducible repeat first | apply bN | apply bD | apply bA); refine blk_far ?_ NB248_250.out _; (with_reducible repeat first | apply bN | apply bD | apply bA); refine blk_far ?_ NB248_250.out _; (with_reducible repeat first | apply bN | apply bD | apply bA); refine blk_far ?_ NB248_250.out _; (with_reducible repeat first | apply bN | apply bD | apply bA); refine blk_far ?_ NB248_250.out _; (with_reducible repeat first | apply bN | apply bD | apply bA); refine blk_far ?_ NB248_250.out _; (with_reducible repeat first | apply bN | apply bD | apply bA); refine blk_far ?_ NB248_250.out _; (with_reducible repeat first | apply bN | apply bD | apply bA); exact BK248.out⟩
           have n1_ : Aside0 ((((((((((((((w22.setCell ⟨gb250, 0, none⟩ (.int .i64 ((rd_T48 l0_0 x28_2).f0))).setCell ⟨gb250, 1, none⟩ (.int .i64 ((rd_T48 l0_0 x28_2).f1))).setCell ⟨gb250, 2, none⟩ (.int .i64 ((rd_T48 l0_0 x28_2).f2))).setCell ⟨gb250, 3, none⟩ (.string ((rd_T48 l0_0 x28_2).f3))).setCell ⟨gb250, 4, none⟩ (.string ((rd_T48 l0_0 x28_2).f4))).setCell ⟨gb250, 5, none⟩ (.bool ((rd_T48 l0_0 x28_2).f5.f0))).setCell ⟨gb250, 6, none⟩ (.int .i64 ((rd_T48 l0_0 x28_2).f5.f1))).setCell ⟨gb250, 7, none⟩ (.int .i64 ((rd_T48 l0_0 x28_2).f5.f2))).setCell ⟨gb250, 8, none⟩ (.int .i64 ((rd_T48 l0_0 x28_2).f5.f3.f0))).setCell ⟨gb250, 9, none⟩ (.int .i64 ((rd_T48 l0_0 x28_2).f5.f3.f1))).setCell ⟨gb250, 10, none⟩ (.int .i64 ((rd_T48 l0_0 x28_2).f5.f3.f2))).setCell ⟨gb250, 11, none⟩ (.int .i64 ((rd_T48 l0_0 x28_2).f5.f4.f0))).setCell ⟨gb250, 12, none⟩ (.int .i64 ((rd_T48 l0_0 x28_2).f5.f4.f1))).heap[gb250]? = some (.cells #[.int .i64 ((rd_T48 l0_0 x28_2).f0), .int .i64 ((rd_T48 l0_0 x28_2).f1), .int .i64 ((rd_T48 l0_0 x28_2).f2), .string ((rd_T48 l0_0 x28_2).f3), .string ((rd_T48 l0_0 x28_2).f4), .bool ((rd_T48 l0_0 x28_2).f5.f0), .int .i64 ((rd_T48 l0_0 x28_2).f5.f1), .int .i64 ((rd_T48 l0_0 x28_2).f5.f2), .int .i64 ((rd_T48 l0_0 x28_2).f5.f3.f0), .int .i64 ((rd_T48 l0_0 x28_2).f5.f3.f1), .int .i64 ((rd_T48 l0_0 x28_2).f5.f3.f2), .int .i64 ((rd_T48 l0_0 x28_2).f5.f4.f0), .int .i64 ((rd_T48 l0_0 x28_2).f5.f4.f1)] 48 (0, 0))) := ⟨by (with_reducible repeat first | apply bN | apply bD | apply bA); refine blk_put (cs := #[.int .i64 ((rd_T48 l0_0 x28_2).f0), .int .i64 ((rd_T48 l0_0 x28_2).f1), .int .i64 ((rd_T48 l0_0 x28_2).f2), .string ((rd_T48 l0_0 x28_2).f3), .string ((rd_T48 l0_0 x28_2).f4), .bool ((rd_T48 l0_0 x28_2).f5.f0), .int .i64 ((rd_T48 l0_0 x28_2).f5.f1), .int .i64 ((rd_T48 l0_0 x28_2).f5.f2), .int .i64 ((rd_T48 l0_0 x28_2).f5.f3.f0), .int .i64 ((rd_T48 l0_0 x28_2).f5.f3.f1), .int .i64 ((rd_T48 l0_0 x28_2).f5.f3.f2), .int .i64 ((rd_T48 l0_0 x28_2).f5.f4.f0), .int .i64 0]) ?_ 12 _ rfl; (with_reducible repeat first | apply bN | apply bD | apply bA); refine blk_put (cs := #[.int .i64 ((rd_T48 l0_0 x28_2).f0), .int .i64 ((rd_T48 l0_0 x28_2).f1), .int .i64 ((rd_T48 l0_0 x28_2).f2), .string ((rd_T48 l0_0 x28_2).f3), .string ((rd_T48 l0_0 x28_2).f4), .bool ((rd_T48 l0_0 x28_2).f5.f0), .int .i64 ((rd_T48 l0_0 x28_2).f5.f1), .int .i64 ((rd_T48 l0_0 x28_2).f5.f2), .int .i64 ((rd_T48 l0_0 x28_2).f5.f3.f0), .int .i64 ((rd_T48 l0_0 x28_2).f5.f3.f1), .int .i64 ((rd_T48 l0_0 x28_2).f5.f3.f2), .int .i64 0, .int .i64 0]) ?_ 11 _ rfl; (with_reducible repeat first | apply bN | apply bD | apply bA); refine blk_put (cs := #[.int .i64 ((rd_T48 l0_0 x28_2).f0), .int .i64 ((rd_T48 l0_0 x28_2).f1), .int .i64 ((rd_T48 l0_0 x28_2).f2), .string ((rd_T48 l0_0 x28_2).f3), .string ((rd_T48 l0_0 x28_2).f4), .bool ((rd_T48 l0_0 x28_2).f5.f0), .int .i64 ((rd_T48 l0_0 x28_2).f5.f1), .int .i64 ((rd_T48 l0_0 x28_2).f5.f2), .int .i64 ((rd_T48 l0_0 x28_2).f5.f3.f0), .int .i64 ((rd_T48 l0_0 x28_2).f5.f3.f1), .int .i64 0, .int .i64 0, .int .i64 0]) ?_ 10 _ rfl; (with_reducible repeat first | apply bN | apply bD | apply bA); refine blk_put (cs := #[.int .i64 ((rd_T48 l0_0 x28_2).f0), .int .i64 ((rd_T48 l0_0 x28_2).f1), .int .i64 ((rd_T48 l0_0 x28_2).f2), .string ((rd_T48 l0_0 x28_2).f3), .string ((rd_T48 l0_0 x28_2).f4), .bool ((rd_T48 l0_0 x28_2).f5.f0), .int .i64 ((rd_T48 l0_0 x28_2).f5.f1), .int .i64 ((rd_T48 l0_0 x28_2).f5.f2), .int .i64 ((rd_T48 l0_0 x28_2).f5.f3.f0), .int .i64 0, .int .i64 0, .int .i64 0, .int .i64 0]) ?_ 9 _ rfl; (with_reducible repeat first | apply bN | apply bD | apply bA); refine blk_put (cs := #[.int .i64 ((rd_T48 l0_0 x28_2).f0), .int .i64 ((rd_T48 l0_0 x28_2).f1), .int .i64 ((rd_T48 l0_0 x28_2).f2), .string ((rd_T48 l0_0 x28_2).f3), .string ((rd_T48 l0_0 x28_2).f4), .bool ((rd_T48 l0_0 x28_2).f5.f0), .int .i64 ((rd_T48 l0_0 x28_2).f5.f1), .int .i64 ((rd_T48 l0_0 x28_2).f5.f2), .int .i64 0, .int .i64 0, .int .i64 0, .int .i64 0, .int .i64 0]) ?_ 8 _ rfl; (with_reducible repeat first | apply bN | apply bD | apply bA); refine blk_put (cs := #[.int .i64 ((rd_T48 l0_0 x28_2).f0), .int .i64 ((rd_T48 l0_0 x28_2).f1), .int .i64 ((rd_T48 l0_0 x28_2).f2), .string ((rd_T48 l0_0 x28_2).f3), .string ((rd_T48 l0_0 x28_2).f4), .bool ((rd_T48 l0_0 x28_2).f5.f0), .int .i64 ((rd_T48 l0_0 x28_2).f5.f1), .int .i64 0, .int .i64 0, .int .i64 0, .int .i64 0, .int .i64 0, .int .i64 0]) ?_ 7 _ rfl; (with_reducible repeat first | apply bN | apply bD | apply bA); refine blk_put (cs := #[.int .i64 ((rd_T48 l0_0 x28_2).f0), .int .i64 ((rd_T48 l0_0 x28_2).f1), .int .i64 ((rd_T48 l0_0 x28_2).f2), .string ((rd_T48 l0_0 x28_2).f3), .string ((rd_T48 l0_0 x28_2).f4), .bool ((rd_T48 l0_0 x28_2).f5.f0), .int .i64 0, .int .i64 0, .int .i64 0, .int .i64 0, .int .i64 0, .int .i64 0, .int .i64 0]) ?_ 6 _ rfl; (with_reducible repeat first | apply bN | apply bD | apply bA); refine blk_put (cs := #[.int .i64 ((rd_T48 l0_0 x28_2).f0), .int .i64 ((rd_T48 l0_0 x28_2).f1), .int .i64 ((rd_T48 l0_0 x28_2).f2), .string ((rd_T48 l0_0 x28_2).f3), .string ((rd_T48 l0_0 x28_2).f4), .bool false, .int .i64 0, .int .i64 0, .int .i64 0, .int .i64 0, .int .i64 0, .int .i64 0, .int .i64 0]) ?_ 5 _ rfl; (with_reducible repeat first | apply bN | apply bD | apply bA); refine blk_put (cs := #[.int .i64 ((rd_T48 l0_0 x28_2).f0), .int .i64 ((rd_T48 l0_0 x28_2).f1), .int .i64 ((rd_T48 l0_0 x28_2).f2), .string ((rd_T48 l0_0 x28_2).f3), .string (⟨#[]⟩ : ByteArray), .bool false, .int .i64 0, .int .i64 0, .int .i64 0, .int .i64 0, .int .i64 0, .int .i64 0, .int .i64 0]) ?_ 4 _ rfl; (with_reducible repeat first | apply bN | apply bD | apply bA); refine blk_put (cs := #[.int .i64 ((rd_T48 l0_0 x28_2).f0), .int .i64 ((rd_T48 l0_0 x28_2).f1), .int .i64 ((rd_T48 l0_0 x28_2).f2), .string (⟨#[]⟩ : ByteArray), .string (⟨#[]⟩ : ByteArray), .bool false, .int .i64 0, .int .i64 0, .int .i64 0, .int .i64 0, .int .i64 0, .int .i64 0, .int .i64 0]) ?_ 3 _ rfl; (with_reducible repeat first | apply bN | apply bD | apply bA); refine blk_put (cs := #[.int .i64 ((rd_T48 l0_0 x28_2).f0), .int .i64 ((rd_T48 l0_0 x28_2).f1), .int .i64 0, .string (⟨#[]⟩ : ByteArray), .string (⟨#[]⟩ : ByteArray), .bool false, .int .i64 0, .int .i64 0, .int .i64 0, .int .i64 0, .int .i64 0, .int .i64 0, .int .i64 0]) ?_ 2 _ rfl; (with_reducible repeat first | apply bN | apply bD | apply bA); refine blk_put (cs := #[.int .i64 ((rd_T48 l0_0 x28_2).f0), .int .i64 0, .int .i64 0, .string (⟨#[]⟩ : ByteArray), .string (⟨#[]⟩ : ByteArray), .bool false, .int .i64 0, .int .i64 0, .int .i64 0, .int .i64 0, .int .i64 0, .int .i64 0, .int .i64 0]) ?_ 1 _ rfl; (with_reducible repeat first | apply bN | apply bD | apply bA); refine blk_put (cs := #[.int .i64 0, .int .i64 0, .int .i64 0, .string (⟨#[]⟩ : ByteArray), .string (⟨#[]⟩ : ByteArray), .bool false, .int .i64 0, .int .i64 0, .int .i64 0, .int .i64 0, .int .i64 0, .int .i64 0, .int .i64 0]) ?_ 0 _ rfl; (with_reducible repeat first | apply bN | apply bD | apply bA); exact BK250.out⟩
           have n2_ : Aside0 (Below w.heap.size w (((((((((((((w22.setCell ⟨gb250, 0, none⟩ (.int .i64 ((rd_T48 l0_0 x28_2).f0))).setCell ⟨gb250, 1, none⟩ (.int .i64 ((rd_T48 l0_0 x28_2).f1))).setCell ⟨gb250, 2, none⟩ (.int .i64 ((rd_T48 l0_0 x28_2).f2))).setCell ⟨gb250, 3, none⟩ (.string ((rd_T48 l0_0 x28_2).f3))).setCell ⟨gb250, 4, none⟩ (.string ((rd_T48 l0_0 x28_2).f4))).setCell ⟨gb250, 5, none⟩ (.bool ((rd_T48 l0_0 x28_2).f5.f0))).setCell ⟨gb250, 6, none⟩ (.int .i64 ((rd_T48 l0_0 x28_2).f5.f1))).setCell ⟨gb250, 7, none⟩ (.int .i64 ((rd_T48 l0_0 x28_2).f5.f2))).setCell ⟨gb250, 8, none⟩ (.int .i64 ((rd_T48 l0_0 x28_2).f5.f3.f0))).setCell ⟨gb250, 9, none⟩ (.int .i64 ((rd_T48 l0_0 x28_2).f5.f3.f1))).setCell ⟨gb250, 10, none⟩ (.int .i64 ((rd_T48 l0_0 x28_2).f5.f3.f2))).setCell ⟨gb250, 11, none⟩ (.int .i64 ((rd_T48 l0_0 x28_2).f5.f4.f0))).setCell ⟨gb250, 12, none⟩ (.int .i64 ((rd_T48 l0_0 x28_2).f5.f4.f1)))) := ⟨by repeat (first | (with_reducible first | exact HB.out | apply lA | apply lN | apply lD | refine lS ?_ GE248.out | refine lS ?_ GE250.out) | exact HB.out)⟩
           (try clear BK248)
           (try clear BK250)
           (try clear HB)
           generalize (((((((((((((w22.setCell ⟨gb250, 0, none⟩ (.int .i64 ((rd_T48 l0_0 x28_2).f0))).setCell ⟨gb250, 1, none⟩ (.int .i64 ((rd_T48 l0_0 x28_2).f1))).setCell ⟨gb250, 2, none⟩ (.int .i64 ((rd_T48 l0_0 x28_2).f2))).setCell ⟨gb250, 3, none⟩ (.string ((rd_T48 l0_0 x28_2).f3))).setCell ⟨gb250, 4, none⟩ (.string ((rd_T48 l0_0 x28_2).f4))).setCell ⟨gb250, 5, none⟩ (.bool ((rd_T48 l0_0 x28_2).f5.f0))).setCell ⟨gb250, 6, none⟩ (.int .i64 ((rd_T48 l0_0 x28_2).f5.f1))).setCell ⟨gb250, 7, none⟩ (.int .i64 ((rd_T48 l0_0 x28_2).f5.f2))).setCell ⟨gb250, 8, none⟩ (.int .i64 ((rd_T48 l0_0 x28_2).f5.f3.f0))).setCell ⟨gb250, 9, none⟩ (.int .i64 ((rd_T48 l0_0 x28_2).f5.f3.f1))).setCell ⟨gb250, 10, none⟩ (.int .i64 ((rd_T48 l0_0 x28_2).f5.f3.f2))).setCell ⟨gb250, 11, none⟩ (.int .i64 ((rd_T48 l0_0 x28_2).f5.f4.f0))).setCell ⟨gb250, 12, none⟩ (.int .i64 ((rd_T48 l0_0 x28_2).f5.f4.f1))) = w25 at n0_ n1_ n2_ ⊢
           have BK248 := n0_
           have BK250 := n1_
           have HB := n2_
           clear n0_ n1_ n2_
           have n0_ := aM (blk_drew BK248.out)
           have n1_ := aM (blk_drew BK250.out)
           have n2_ := aM (lD HB.out)
           clear BK248
           clear BK250
           clear HB
           have BK248 := n0_
           have BK250 := n1_
           have HB := n2_
           clear n0_ n1_ n2_
           have p251 : 0 ≤ (x28_2 : Int) := of_decide_eq_true (by assumption)
           have q251 : x28_2 < (l0_1.length : Int) := of_decide_eq_true (by assumption)
           obtain ⟨ad251, A251_0, c251_0, e251, hx251_0, hl251_0, hi251_0⟩ := at_L10 HR0_1.out x28_2 p251 q251
           have hw251_0 := hx251_0
           cases e251
           replace hx251_0 := (HB.out.cell (wB w _ hx251_0)).trans hx251_0
           have HR251_0 := aM hi251_0
           have HC251_0 := aM hl251_0
           clear hi251_0 hl251_0
           replace p251 := eq_true p251
           replace q251 := eq_true q251
           refine start_ (n := 8) (S := fun w' => w'.cell? ⟨gb250, 0, none⟩ = some (.int .i64 ((rd_T48 l0_0 x28_2).f0)) ∧ w'.cell? ⟨gb250, 1, none⟩ = some (.int .i64 ((rd_T48 l0_0 x28_2).f1)) ∧ w'.cell? ⟨gb250, 2, none⟩ = some (.int .i64 ((rd_T48 l0_0 x28_2).f2)) ∧ w'.cell? ⟨gb250, 3, none⟩ = some (.string ((rd_T48 l0_0 x28_2).f3)) ∧ w'.cell? ⟨gb250, 4, none⟩ = some (.string ((rd_T48 l0_0 x28_2).f4)) ∧ w'.cell? ⟨gb250, 5, none⟩ = some (.bool ((rd_T48 l0_0 x28_2).f5.f0)) ∧ w'.cell? ⟨gb250, 6, none⟩ = some (.int .i64 ((rd_T48 l0_0 x28_2).f5.f1)) ∧ w'.cell? ⟨gb250, 7, none⟩ = some (.int .i64 ((rd_T48 l0_0 x28_2).f5.f2)) ∧ w'.cell? ⟨gb250, 8, none⟩ = some (.int .i64 ((rd_T48 l0_0 x28_2).f5.f3.f0)) ∧ w'.cell? ⟨gb250, 9, none⟩ = some (.int .i64 ((rd_T48 l0_0 x28_2).f5.f3.f1)) ∧ w'.cell? ⟨gb250, 10, none⟩ = some (.int .i64 ((rd_T48 l0_0 x28_2).f5.f3.f2)) ∧ w'.cell? ⟨gb250, 11, none⟩ = some (.int .i64 ((rd_T48 l0_0 x28_2).f5.f4.f0)) ∧ w'.cell? ⟨gb250, 12, none⟩ = some (.int .i64 ((rd_T48 l0_0 x28_2).f5.f4.f1)) ∧ w'.cell? ⟨gb248, 0, none⟩ = some (.slice (some ad249) l0_0.length c0_0) ∧ w'.cell? ⟨gb248, 1, none⟩ = some (.slice (some ad251) l0_1.length c0_1) ∧ w'.cell? (ad251.add (x28_2).toNat) = some (.slice A251_0 (rd_L10 l0_1 x28_2).length c251_0)) (ds := []) #[false, false, false, false, false, false, false, false] (by kernel_rfl) rfl rfl ⟨(blk_cell BK250.out 0).trans rfl, (blk_cell BK250.out 1).trans rfl, (blk_cell BK250.out 2).trans rfl, (blk_cell BK250.out 3).trans rfl, (blk_cell BK250.out 4).trans rfl, (blk_cell BK250.out 5).trans rfl, (blk_cell BK250.out 6).trans rfl, (blk_cell BK250.out 7).trans rfl, (blk_cell BK250.out 8).trans rfl, (blk_cell BK250.out 9).trans rfl, (blk_cell BK250.out 10).trans rfl, (blk_cell BK250.out 11).trans rfl, (blk_cell BK250.out 12).trans rfl, (blk_cell BK248.out 0).trans rfl, (blk_cell BK248.out 1).trans rfl, ((HB.out.cell (wB w _ hw251_0)).trans hw251_0)⟩ (fun hHeld => ?_); refine with_tabW den_Right.tab7 den_Right.bits7 (fun HT_ HW_ => ?_)
           generalize w25.drew = w26 at BK248 BK250 HB HR251_0 hx251_0 hHeld ⊢
           refine pure_ (i := 1) (N := some 34) (v := ?_) (a' := ?_) #[false, true, false, false, false, false, false, false] rfl rfl (any_of HT_.out (by kernel_rfl)) (fun _ _ _ h => h) (Or.inl ⟨by rfl, ?_⟩) ?_ ?_
           rotate_left
           ·intro w'
            go_simp
            with_reducible rfl
           rotate_left
           ·simp only [Act.put, sA, sZ, sS, i64_w, i32_w]
            rfl
           refine pure_ (i := 3) (N := some 36) (v := ?_) (a' := ?_) #[false, true, false, true, false, false, false, false] rfl rfl (any_of HT_.out (by kernel_rfl)) (fun _ _ _ h => h) (Or.inl ⟨by rfl, ?_⟩) ?_ ?_
           rotate_left
           ·intro w'
            go_simp
            with_reducible rfl
           rotate_left
           ·simp only [Act.put, sA, sZ, sS, i64_w, i32_w]
            rfl
           refine take_ (i := 0) (N := some 33) (v := ?_) (a' := ?_) #[true, true, false, true, false, false, false, false] rfl rfl (take_ofW HT_.out HW_.out (by kernel_rfl)) (fun _ _ _ h => h) (Or.inl ⟨by rfl, ?_⟩) hHeld ?_ ?_
           rotate_left
           ·rintro w' ⟨s0, s1, s2, s3, s4, s5, s6, s7, s8, s9, s10, s11, s12, s13, s14, s15⟩
            go_simp
            with_reducible rfl
           rotate_left
           ·simp only [Act.put, sA, sZ, sS, i64_w, i32_w]
            rfl
           refine take_ (i := 2) (N := some 35) (v := ?_) (a' := ?_) #[true, true, true, true, false, false, false, false] rfl rfl (take_ofW HT_.out HW_.out (by kernel_rfl)) (fun _ _ _ h => h) (Or.inl ⟨by rfl, ?_⟩) hHeld ?_ ?_
           rotate_left
           ·rintro w' ⟨s0, s1, s2, s3, s4, s5, s6, s7, s8, s9, s10, s11, s12, s13, s14, s15⟩
            go_simp
            with_reducible rfl
           rotate_left
           ·simp only [Act.put, sA, sZ, sS, i64_w, i32_w]
            rfl
           refine pure_ (i := 4) (N := some 37) (v := ?_) (a' := ?_) #[true, true, true, true, true, false, false, false] rfl rfl (any_of HT_.out (by kernel_rfl)) (fun _ _ _ h => h) (Or.inl ⟨by rfl, ?_⟩) ?_ ?_
           rotate_left
           ·intro w'
            go_simp
            with_reducible rfl
           rotate_left
           ·simp only [Act.put, sA, sZ, sS, i64_w, i32_w]
            rfl
           refine take_ (i := 5) (N := some 38) (v := ?_) (a' := ?_) #[true, true, true, true, true, true, false, false] rfl rfl (take_ofW HT_.out HW_.out (by kernel_rfl)) (fun _ _ _ h => h) (Or.inl ⟨by rfl, ?_⟩) hHeld ?_ ?_
           rotate_left
           ·rintro w' ⟨s0, s1, s2, s3, s4, s5, s6, s7, s8, s9, s10, s11, s12, s13, s14, s15⟩
            go_simp
            with_reducible rfl
           rotate_left
           ·simp only [Act.put, sA, sZ, sS, i64_w, i32_w]
            rfl
           refine one_ (i := 6) (N := some 39) #[true, true, true, true, true, true, true, false] rfl rfl (one_of HT_.out (by kernel_rfl)) (by decide) (fun K hK => ?_)
           refine goes_ Try.func21 (by kernel_rfl) rfl #[.agg #[.int .i64 ((rd_T48 l0_0 x28_2).f0), .int .i64 ((rd_T48 l0_0 x28_2).f1), .int .i64 ((rd_T48 l0_0 x28_2).f2), .string ((rd_T48 l0_0 x28_2).f3), .string ((rd_T48 l0_0 x28_2).f4), .bool ((rd_T48 l0_0 x28_2).f5.f0), .int .i64 ((rd_T48 l0_0 x28_2).f5.f1), .int .i64 ((rd_T48 l0_0 x28_2).f5.f2), .int .i64 ((rd_T48 l0_0 x28_2).f5.f3.f0), .int .i64 ((rd_T48 l0_0 x28_2).f5.f3.f1), .int .i64 ((rd_T48 l0_0 x28_2).f5.f3.f2), .int .i64 ((rd_T48 l0_0 x28_2).f5.f4.f0), .int .i64 ((rd_T48 l0_0 x28_2).f5.f4.f1)], .slice A251_0 (rd_L10 l0_1 x28_2).length c251_0] (by rfl) rfl rfl (by (try simp only [List.map_toArray, List.map_cons, List.map_nil]); first | done | rfl | (simp only [List.length_drop, List.length_take]; rfl)) ?_
           with_reducible refine (den_fits.calls k2 ((rd_T48 l0_0 x28_2).f0) ((rd_T48 l0_0 x28_2).f1) ((rd_T48 l0_0 x28_2).f2) ((rd_T48 l0_0 x28_2).f3) ((rd_T48 l0_0 x28_2).f4) ((rd_T48 l0_0 x28_2).f5.f0) ((rd_T48 l0_0 x28_2).f5.f1) ((rd_T48 l0_0 x28_2).f5.f2) ((rd_T48 l0_0 x28_2).f5.f3.f0) ((rd_T48 l0_0 x28_2).f5.f3.f1) ((rd_T48 l0_0 x28_2).f5.f3.f2) ((rd_T48 l0_0 x28_2).f5.f4.f0) ((rd_T48 l0_0 x28_2).f5.f4.f1) _ _ (rd_L10 l0_1 x28_2) false _ ?side1 ?side2 A14.out).mono ?_
           (case side1 => repeat (first | exact (Kd.C_below HR251_0.out HB.out) | (with_reducible refine Kd.C_alloc ?_ _) | (with_reducible refine Kd.C_drewN ?_ _) | (with_reducible refine Kd.C_drew ?_)))
           (case side2 => exact HC251_0.out)
           rintro e w27 ⟨rfl, hb⟩
           refine ⟨_, rfl, ?_⟩
           have n0_ := aM (blk_below (bX BK248.out) hb)
           have n1_ := aM (blk_below (bX BK250.out) hb)
           have n2_ := aM (below_step (by repeat (first | (with_reducible first | exact HB.out | apply lA | apply lN | apply lD | refine lS ?_ GE248.out | refine lS ?_ GE250.out) | exact HB.out)) hb)
           clear BK248
           clear BK250
           clear HB
           have BK248 := n0_
           have BK250 := n1_
           have HB := n2_
           clear n0_ n1_ n2_
           (try clear hb)
           (try clear hb2)
           (try clear hk)
           (try clear hi)
           refine hK.out _ _ ⟨(blk_cell BK250.out 0).trans rfl, (blk_cell BK250.out 1).trans rfl, (blk_cell BK250.out 2).trans rfl, (blk_cell BK250.out 3).trans rfl, (blk_cell BK250.out 4).trans rfl, (blk_cell BK250.out 5).trans rfl, (blk_cell BK250.out 6).trans rfl, (blk_cell BK250.out 7).trans rfl, (blk_cell BK250.out 8).trans rfl, (blk_cell BK250.out 9).trans rfl, (blk_cell BK250.out 10).trans rfl, (blk_cell BK250.out 11).trans rfl, (blk_cell BK250.out 12).trans rfl, (blk_cell BK248.out 0).trans rfl, (blk_cell BK248.out 1).trans rfl, ((HB.out.cell (wB w _ hw251_0)).trans hw251_0)⟩ (fun hHeld => ?_)
           clear hK K
           refine norm_ (a' := ?_) ?_ ?_
           rotate_left
           ·show Act.put _ (some 39) _ = _
            simp only [Act.put, sA, sZ, sS, i64_w, i32_w]
            rfl
           refine pure_ (i := 7) (N := some 40) (v := ?_) (a' := ?_) #[true, true, true, true, true, true, true, true] rfl rfl (any_of HT_.out (by kernel_rfl)) (fun _ _ _ h => h) (Or.inl ⟨by rfl, ?_⟩) ?_ ?_
           rotate_left
           ·intro w'
            go_simp
            with_reducible rfl
           rotate_left
           ·simp only [Act.put, sA, sZ, sS, i64_w, i32_w]
            rfl
           refine done_ (done_of HT_.out (by kernel_rfl)) ?_
           try go_wp2
           go_ret
           exact ⟨by first | rfl | (simp [errW_none, errW_some] <;> rfl) | (simp [*, errW_none, errW_some] <;> rfl), by repeat (first | (with_reducible first | exact HB.out | apply lA | apply lN | apply lD | refine lS ?_ GE248.out | refine lS ?_ GE250.out) | exact HB.out)⟩
         ·rw [if_neg c13] at H
          exact absurd H (by simp)
        ·rw [if_neg c12] at H
         exact absurd H (by simp)
       ·rw [if_neg c11] at H
        exact absurd H (by simp)
      ·rw [if_neg c10] at H
       have c10b0 : decide (x28_2 < (l0_0.length : Int)) = false := decide_eq_false c10
       clear c10
       have H' := aM H
       clear H
       obtain ⟨hcz28_0, hcz28_1⟩ := blkC2 BK248.out
       obtain ⟨hfz28_0, hfz28_1⟩ := blkF2 BK248.out
       go_wp2
       go_loopg [45] k2 (fun kq v45 w' => ∃ (x45_3 : Int), v45 = .int .i64 x45_3 ∧ Aside0 (den_Right.l1 kq (l0_0.length : Int) l0_0 (l0_0.length : Int) x45_3 l0_0 l0_1 = some r) ∧ Aside0 (kq ≤ k2) ∧ Aside0 (w'.heap[gb248]? = some (.cells #[(.slice A0_0 l0_0.length c0_0), (.slice A0_1 l0_1.length c0_1)] 33 (0, 0))) ∧ Aside0 (Below w.heap.size w w'))
       case atStart => exact ⟨(0), (by first | rfl | (simp; done) | (simp [*]; done)), H', ⟨Nat.le_refl _⟩, ⟨by (with_reducible repeat first | apply bN | apply bD | apply bA); exact BK248.out⟩, ⟨by repeat (first | (with_reducible first | exact HB.out | apply lA | apply lN | apply lD | refine lS ?_ GE248.out) | exact HB.out)⟩⟩
       case round =>
        clear H'
        try clear c1; try clear c2; try clear p2; try clear q2; try clear hx2; try clear c5; try clear c5b0; try clear c5b1; try clear c5b2; try clear c6; try clear c6b0; try clear c6b1; try clear p6; try clear c8; try clear c10; try clear c10b0; try clear c11; try clear c11b0; try clear c12; try clear c12b0; try clear c13; try clear c13b0; try clear c15; try clear c17; try clear c21; try clear c23; try clear p24; try clear q24; try clear hx24; try clear c25; try clear p25; try clear q25; try clear hx25; try clear hcz18_0; try clear hcz18_1; try clear hcz18_10; try clear hcz18_11; try clear hcz18_12; try clear hcz18_2; try clear hcz18_3; try clear hcz18_4; try clear hcz18_5; try clear hcz18_6; try clear hcz18_7; try clear hcz18_8; try clear hcz18_9; try clear hcz24_0; try clear hcz24_1; try clear hcz24_10; try clear hcz24_11; try clear hcz24_12; try clear hcz24_2; try clear hcz24_3; try clear hcz24_4; try clear hcz24_5; try clear hcz24_6; try clear hcz24_7; try clear hcz24_8; try clear hcz24_9; try clear hcz28_0; try clear hcz28_1; try clear hcz4_0; try clear hcz4_1; try clear hcz7_0; try clear hcz7_1; try clear hcz9_0; try clear hcz9_1; try clear hfz18_0; try clear hfz18_1; try clear hfz18_10; try clear hfz18_11; try clear hfz18_12; try clear hfz18_2; try clear hfz18_3; try clear hfz18_4; try clear hfz18_5; try clear hfz18_6; try clear hfz18_7; try clear hfz18_8; try clear hfz18_9; try clear hfz24_0; try clear hfz24_1; try clear hfz24_10; try clear hfz24_11; try clear hfz24_12; try clear hfz24_2; try clear hfz24_3; try clear hfz24_4; try clear hfz24_5; try clear hfz24_6; try clear hfz24_7; try clear hfz24_8; try clear hfz24_9; try clear hfz28_0; try clear hfz28_1; try clear hfz4_0; try clear hfz4_1; try clear hfz7_0; try clear hfz7_1; try clear hfz9_0; try clear hfz9_1; try clear hx249_0; try clear hx249_1; try clear hx249_10; try clear hx249_11; try clear hx249_12; try clear hx249_2; try clear hx249_3; try clear hx249_4; try clear hx249_5; try clear hx249_6; try clear hx249_7; try clear hx249_8; try clear hx249_9; try clear hx251_0; try clear p2; try clear p249; try clear p251; try clear q249; try clear q251
        obtain ⟨x45_3, rfl, HA, HK3, BK248, HB⟩ := hrel
        cases gk with
        | zero => exact absurd HA.out (by simp [den_Right.l1])
        | succ k3 =>
         have H := HA.out
         clear HA
         simp only [den_Right.l1] at H
         by_cases c29 : x45_3 < (l0_0.length : Int)
         ·rw [if_pos c29] at H
          have c29b0 : decide (x45_3 < (l0_0.length : Int)) = true := decide_eq_true c29
          clear c29
          by_cases c30 : 0 ≤ x45_3
          ·rw [if_pos c30] at H
           have c30b0 : decide (0 ≤ x45_3) = true := decide_eq_true c30
           clear c30
           by_cases c31 : x45_3 < (l0_0.length : Int)
           ·rw [if_pos c31] at H
            have c31b0 : decide (x45_3 < (l0_0.length : Int)) = true := decide_eq_true c31
            clear c31
            by_cases c32 : (((rd_T48 l0_0 x45_3).f5.f0) == (x45_3 == (wrap64 ((l0_0.length : Int) - 1)))) = true
            ·rw [if_pos c32] at H
             have c32b0 : (((rd_T48 l0_0 x45_3).f5.f0) == (x45_3 == (wrap64 ((l0_0.length : Int) - 1)))) = true := c32
             (try (have c32b1 : decide (((rd_T48 l0_0 x45_3).f5.f0) = (x45_3 == (wrap64 ((l0_0.length : Int) - 1)))) = true := by simpa using c32))
             (try (have c32b2 : (((rd_T48 l0_0 x45_3).f5.f0) == (x45_3 == (wrap64 ((l0_0.length : Int) - 1)))) = true := by simpa using c32))
             clear c32
             obtain rfl := Option.some.inj H
             have p253 : 0 ≤ (x45_3 : Int) := of_decide_eq_true (by assumption)
             have q253 : x45_3 < (l0_0.length : Int) := of_decide_eq_true (by assumption)
             obtain ⟨ad253, e253, hx253_0, hx253_1, hx253_2, hx253_3, hx253_4, hx253_5, hx253_6, hx253_7, hx253_8, hx253_9, hx253_10, hx253_11, hx253_12⟩ := at_T48 HR0_0.out x45_3 p253 q253
             cases e253
             replace hx253_0 := (HB.out.cell (wB w _ hx253_0)).trans hx253_0
             replace hx253_1 := (HB.out.cell (wB w _ hx253_1)).trans hx253_1
             replace hx253_2 := (HB.out.cell (wB w _ hx253_2)).trans hx253_2
             replace hx253_3 := (HB.out.cell (wB w _ hx253_3)).trans hx253_3
             replace hx253_4 := (HB.out.cell (wB w _ hx253_4)).trans hx253_4
             replace hx253_5 := (HB.out.cell (wB w _ hx253_5)).trans hx253_5
             replace hx253_6 := (HB.out.cell (wB w _ hx253_6)).trans hx253_6
             replace hx253_7 := (HB.out.cell (wB w _ hx253_7)).trans hx253_7
             replace hx253_8 := (HB.out.cell (wB w _ hx253_8)).trans hx253_8
             replace hx253_9 := (HB.out.cell (wB w _ hx253_9)).trans hx253_9
             replace hx253_10 := (HB.out.cell (wB w _ hx253_10)).trans hx253_10
             replace hx253_11 := (HB.out.cell (wB w _ hx253_11)).trans hx253_11
             replace hx253_12 := (HB.out.cell (wB w _ hx253_12)).trans hx253_12
             replace p253 := eq_true p253
             replace q253 := eq_true q253
             go_wp2_with (first | ((with_reducible refine gate_dst (N := 7) rfl ?_); (try (refine gate_guard (by rfl) ?_; dsimp only)); refine box_event ?hg (N := 7) ?hd (cs := #[.int .i64 0, .int .i64 0, .int .i64 0, .string (⟨#[]⟩ : ByteArray), .string (⟨#[]⟩ : ByteArray), .bool false, .int .i64 0, .int .i64 0, .int .i64 0, .int .i64 0, .int .i64 0, .int .i64 0, .int .i64 0]) (t := 48) ?hr ?_; (case hd => rfl); (case hg => rfl); (case hr => first | (go_simp; done) | (go_simp; rfl)); intro gb254 hg w33 hbox hb; have n0_ := aM (blk_below (bX BK248.out) hb); have n1_ := aM (below_step (by repeat (first | (with_reducible first | exact HB.out | apply lA | apply lN | apply lD | refine lS ?_ GE248.out) | exact HB.out)) hb); have n2_ := aM (hbox); have n3_ := aM ((by rw [hg]; exact (below_size (by repeat (first | (with_reducible first | exact HB.out | apply lA | apply lN | apply lD | refine lS ?_ GE248.out) | exact HB.out))) : w.heap.size ≤ gb254)); have n4_ := aM ((by rw [hg]; exact (below_size (by repeat (first | (with_reducible first | exact HB.out | apply lA | apply lN | apply lD | refine lS ?_ GE248.out) | exact HB.out))) : w.heap.size ≤ gb254)); have n5_ := aM ((by rw [hg]; exact Nat.ne_of_lt (blk_lt (bX BK248.out)) : gb248 ≠ gb254)); have n6_ := aM ((by rw [hg]; exact Nat.ne_of_gt (blk_lt (bX BK248.out)) : gb254 ≠ gb248)); clear BK248; clear HB; have BK248 := n0_; have HB := n1_; have BK254 := n2_; have GW254 := n3_; have GE254 := n4_; have NB248_254 := n5_; have NB254_248 := n6_; clear n0_ n1_ n2_ n3_ n4_ n5_ n6_; clear hb hbox hg; have hnb34 := NB254_248.out; have hnc34 := NB248_254.out; obtain ⟨hcz35_0, hcz35_1, hcz35_2, hcz35_3, hcz35_4, hcz35_5, hcz35_6, hcz35_7, hcz35_8, hcz35_9, hcz35_10, hcz35_11, hcz35_12⟩ := blkC13 BK254.out; obtain ⟨hfz35_0, hfz35_1, hfz35_2, hfz35_3, hfz35_4, hfz35_5, hfz35_6, hfz35_7, hfz35_8, hfz35_9, hfz35_10, hfz35_11, hfz35_12⟩ := blkF13 BK254.out))
             go_ret
             exact ⟨by first | rfl | (simp [errW_none, errW_some] <;> rfl) | (simp [*, errW_none, errW_some] <;> rfl), by repeat (first | (with_reducible first | exact HB.out | apply lA | apply lN | apply lD | refine lS ?_ GE248.out | refine lS ?_ GE254.out) | exact HB.out)⟩
            ·rw [if_neg c32] at H
             have c32b0 : (((rd_T48 l0_0 x45_3).f5.f0) == (x45_3 == (wrap64 ((l0_0.length : Int) - 1)))) = false := by simpa using c32
             (try (have c32b1 : decide (((rd_T48 l0_0 x45_3).f5.f0) = (x45_3 == (wrap64 ((l0_0.length : Int) - 1)))) = false := by simpa using c32))
             (try (have c32b2 : (((rd_T48 l0_0 x45_3).f5.f0) == (x45_3 == (wrap64 ((l0_0.length : Int) - 1)))) = false := by simpa using c32))
             (try (have c32b3 : ¬ (((rd_T48 l0_0 x45_3).f5.f0) = (x45_3 == (wrap64 ((l0_0.length : Int) - 1)))) := by simpa using c32))
             clear c32
             have H' := aM H
             clear H
             have p253 : 0 ≤ (x45_3 : Int) := of_decide_eq_true (by assumption)
             have q253 : x45_3 < (l0_0.length : Int) := of_decide_eq_true (by assumption)
             obtain ⟨ad253, e253, hx253_0, hx253_1, hx253_2, hx253_3, hx253_4, hx253_5, hx253_6, hx253_7, hx253_8, hx253_9, hx253_10, hx253_11, hx253_12⟩ := at_T48 HR0_0.out x45_3 p253 q253
             cases e253
             replace hx253_0 := (HB.out.cell (wB w _ hx253_0)).trans hx253_0
             replace hx253_1 := (HB.out.cell (wB w _ hx253_1)).trans hx253_1
             replace hx253_2 := (HB.out.cell (wB w _ hx253_2)).trans hx253_2
             replace hx253_3 := (HB.out.cell (wB w _ hx253_3)).trans hx253_3
             replace hx253_4 := (HB.out.cell (wB w _ hx253_4)).trans hx253_4
             replace hx253_5 := (HB.out.cell (wB w _ hx253_5)).trans hx253_5
             replace hx253_6 := (HB.out.cell (wB w _ hx253_6)).trans hx253_6
             replace hx253_7 := (HB.out.cell (wB w _ hx253_7)).trans hx253_7
             replace hx253_8 := (HB.out.cell (wB w _ hx253_8)).trans hx253_8
             replace hx253_9 := (HB.out.cell (wB w _ hx253_9)).trans hx253_9
             replace hx253_10 := (HB.out.cell (wB w _ hx253_10)).trans hx253_10
             replace hx253_11 := (HB.out.cell (wB w _ hx253_11)).trans hx253_11
             replace hx253_12 := (HB.out.cell (wB w _ hx253_12)).trans hx253_12
             replace p253 := eq_true p253
             replace q253 := eq_true q253
             go_wp2_with (first | ((with_reducible refine gate_dst (N := 7) rfl ?_); (try (refine gate_guard (by rfl) ?_; dsimp only)); refine box_event ?hg (N := 7) ?hd (cs := #[.int .i64 0, .int .i64 0, .int .i64 0, .string (⟨#[]⟩ : ByteArray), .string (⟨#[]⟩ : ByteArray), .bool false, .int .i64 0, .int .i64 0, .int .i64 0, .int .i64 0, .int .i64 0, .int .i64 0, .int .i64 0]) (t := 48) ?hr ?_; (case hd => rfl); (case hg => rfl); (case hr => first | (go_simp; done) | (go_simp; rfl)); intro gb254 hg w36 hbox hb; have n0_ := aM (blk_below (bX BK248.out) hb); have n1_ := aM (below_step (by repeat (first | (with_reducible first | exact HB.out | apply lA | apply lN | apply lD | refine lS ?_ GE248.out) | exact HB.out)) hb); have n2_ := aM (hbox); have n3_ := aM ((by rw [hg]; exact (below_size (by repeat (first | (with_reducible first | exact HB.out | apply lA | apply lN | apply lD | refine lS ?_ GE248.out) | exact HB.out))) : w.heap.size ≤ gb254)); have n4_ := aM ((by rw [hg]; exact (below_size (by repeat (first | (with_reducible first | exact HB.out | apply lA | apply lN | apply lD | refine lS ?_ GE248.out) | exact HB.out))) : w.heap.size ≤ gb254)); have n5_ := aM ((by rw [hg]; exact Nat.ne_of_lt (blk_lt (bX BK248.out)) : gb248 ≠ gb254)); have n6_ := aM ((by rw [hg]; exact Nat.ne_of_gt (blk_lt (bX BK248.out)) : gb254 ≠ gb248)); clear BK248; clear HB; have BK248 := n0_; have HB := n1_; have BK254 := n2_; have GW254 := n3_; have GE254 := n4_; have NB248_254 := n5_; have NB254_248 := n6_; clear n0_ n1_ n2_ n3_ n4_ n5_ n6_; clear hb hbox hg; have hnb37 := NB254_248.out; have hnc37 := NB248_254.out; obtain ⟨hcz38_0, hcz38_1, hcz38_2, hcz38_3, hcz38_4, hcz38_5, hcz38_6, hcz38_7, hcz38_8, hcz38_9, hcz38_10, hcz38_11, hcz38_12⟩ := blkC13 BK254.out; obtain ⟨hfz38_0, hfz38_1, hfz38_2, hfz38_3, hfz38_4, hfz38_5, hfz38_6, hfz38_7, hfz38_8, hfz38_9, hfz38_10, hfz38_11, hfz38_12⟩ := blkF13 BK254.out))
             go_roundg k3
             case measure => have := HJ1.out; have := HK2.out; have := HK3.out; omega
             case rel => exact ⟨(wrap64 (x45_3 + 1)), (by first | rfl | (simp; done) | (simp [*]; done)), H', ⟨by have := HJ1.out; have := HK2.out; have := HK3.out; omega⟩, ⟨by (with_reducible repeat first | apply bN | apply bD | apply bA); refine blk_far ?_ NB248_254.out _; (with_reducible repeat first | apply bN | apply bD | apply bA); refine blk_far ?_ NB248_254.out _; (with_reducible repeat first | apply bN | apply bD | apply bA); refine blk_far ?_ NB248_254.out _; (with_reducible repeat first | apply bN | apply bD | apply bA); refine blk_far ?_ NB248_254.out _; (with_reducible repeat first | apply bN | apply bD | apply bA); refine blk_far ?_ NB248_254.out _; (with_reducible repeat first | apply bN | apply bD | apply bA); refine blk_far ?_ NB248_254.out _; (with_reducible repeat first | apply bN | apply bD | apply bA); refine blk_far ?_ NB248_254.out _; (with_reducible repeat first | apply bN | apply bD | apply bA); refine blk_far ?_ NB248_254.out _; (with_reducible repeat first | apply bN | apply bD | apply bA); refine blk_far ?_ NB248_254.out _; (with_reducible repeat first | apply bN | apply bD | apply bA); refine blk_far ?_ NB248_254.out _; (with_reducible repeat first | apply bN | apply bD | apply bA); refine blk_far ?_ NB248_254.out _; (with_reducible repeat first | apply bN | apply bD | apply bA); refine blk_far ?_ NB248_254.out _; (with_reducible repeat first | apply bN | apply bD | apply bA); refine blk_far ?_ NB248_254.out _; (with_reducible repeat first | apply bN | apply bD | apply bA); exact BK248.out⟩, ⟨by repeat (first | (with_reducible first | exact HB.out | apply lA | apply lN | apply lD | refine lS ?_ GE248.out | refine lS ?_ GE254.out) | exact HB.out)⟩⟩
           ·rw [if_neg c31] at H
            exact absurd H (by simp)
          ·rw [if_neg c30] at H
           exact absurd H (by simp)
         ·rw [if_neg c29] at H
          have c29b0 : decide (x45_3 < (l0_0.length : Int)) = false := decide_eq_false c29
          clear c29
          obtain ⟨ji39, hji39⟩ : ∃ j_ : Int, (mx (wrap64 ((l0_0.length : Int) - 2)) 0) = j_ := ⟨_, rfl⟩
          replace H : (den_Right.l2 k3 ji39 0 l0_0 l0_1) = some r := by first | (rw [hji39] at H; exact H) | (simp only [hji39] at H ⊢; exact H)
          have hji39_ : (if (wrap64 ((l0_0.length : Int) - 2)) < 0 then 0 else (wrap64 ((l0_0.length : Int) - 2))) = ji39 := hji39
          have H' := aM H
          clear H
          go_wp2
          go_loopg [62] k3 (fun kq v62 w' => ∃ (x62_4 : Int), v62 = .int .i64 x62_4 ∧ Aside0 (den_Right.l2 kq ji39 x62_4 l0_0 l0_1 = some r) ∧ Aside0 (kq ≤ k3) ∧ Aside0 (w'.heap[gb248]? = some (.cells #[(.slice A0_0 l0_0.length c0_0), (.slice A0_1 l0_1.length c0_1)] 33 (0, 0))) ∧ Aside0 (Below w.heap.size w w'))
          case atStart => exact ⟨(0), (by first | rfl | (simp; done) | (simp [*]; done)), H', ⟨Nat.le_refl _⟩, ⟨by (with_reducible repeat first | apply bN | apply bD | apply bA); exact BK248.out⟩, ⟨by repeat (first | (with_reducible first | exact HB.out | apply lA | apply lN | apply lD | refine lS ?_ GE248.out) | exact HB.out)⟩⟩
          case round =>
           clear H'
           try clear c1; try clear c2; try clear p2; try clear q2; try clear hx2; try clear c3; try clear c5; try clear c5b0; try clear c5b1; try clear c5b2; try clear c6; try clear c6b0; try clear c6b1; try clear p6; try clear c8; try clear c10; try clear c10b0; try clear c11; try clear c11b0; try clear c12; try clear c12b0; try clear c13; try clear c13b0; try clear c15; try clear c17; try clear c21; try clear c23; try clear p24; try clear q24; try clear hx24; try clear c25; try clear p25; try clear q25; try clear hx25; try clear c29; try clear c29b0; try clear c30; try clear c30b0; try clear c31; try clear c31b0; try clear c32; try clear c32b0; try clear c32b1; try clear c32b2; try clear c34; try clear c37; try clear hcz18_0; try clear hcz18_1; try clear hcz18_10; try clear hcz18_11; try clear hcz18_12; try clear hcz18_2; try clear hcz18_3; try clear hcz18_4; try clear hcz18_5; try clear hcz18_6; try clear hcz18_7; try clear hcz18_8; try clear hcz18_9; try clear hcz24_0; try clear hcz24_1; try clear hcz24_10; try clear hcz24_11; try clear hcz24_12; try clear hcz24_2; try clear hcz24_3; try clear hcz24_4; try clear hcz24_5; try clear hcz24_6; try clear hcz24_7; try clear hcz24_8; try clear hcz24_9; try clear hcz28_0; try clear hcz28_1; try clear hcz35_0; try clear hcz35_1; try clear hcz35_10; try clear hcz35_11; try clear hcz35_12; try clear hcz35_2; try clear hcz35_3; try clear hcz35_4; try clear hcz35_5; try clear hcz35_6; try clear hcz35_7; try clear hcz35_8; try clear hcz35_9; try clear hcz38_0; try clear hcz38_1; try clear hcz38_10; try clear hcz38_11; try clear hcz38_12; try clear hcz38_2; try clear hcz38_3; try clear hcz38_4; try clear hcz38_5; try clear hcz38_6; try clear hcz38_7; try clear hcz38_8; try clear hcz38_9; try clear hcz4_0; try clear hcz4_1; try clear hcz7_0; try clear hcz7_1; try clear hcz9_0; try clear hcz9_1; try clear hfz18_0; try clear hfz18_1; try clear hfz18_10; try clear hfz18_11; try clear hfz18_12; try clear hfz18_2; try clear hfz18_3; try clear hfz18_4; try clear hfz18_5; try clear hfz18_6; try clear hfz18_7; try clear hfz18_8; try clear hfz18_9; try clear hfz24_0; try clear hfz24_1; try clear hfz24_10; try clear hfz24_11; try clear hfz24_12; try clear hfz24_2; try clear hfz24_3; try clear hfz24_4; try clear hfz24_5; try clear hfz24_6; try clear hfz24_7; try clear hfz24_8; try clear hfz24_9; try clear hfz28_0; try clear hfz28_1; try clear hfz35_0; try clear hfz35_1; try clear hfz35_10; try clear hfz35_11; try clear hfz35_12; try clear hfz35_2; try clear hfz35_3; try clear hfz35_4; try clear hfz35_5; try clear hfz35_6; try clear hfz35_7; try clear hfz35_8; try clear hfz35_9; try clear hfz38_0; try clear hfz38_1; try clear hfz38_10; try clear hfz38_11; try clear hfz38_12; try clear hfz38_2; try clear hfz38_3; try clear hfz38_4; try clear hfz38_5; try clear hfz38_6; try clear hfz38_7; try clear hfz38_8; try clear hfz38_9; try clear hfz4_0; try clear hfz4_1; try clear hfz7_0; try clear hfz7_1; try clear hfz9_0; try clear hfz9_1; try clear hx249_0; try clear hx249_1; try clear hx249_10; try clear hx249_11; try clear hx249_12; try clear hx249_2; try clear hx249_3; try clear hx249_4; try clear hx249_5; try clear hx249_6; try clear hx249_7; try clear hx249_8; try clear hx249_9; try clear hx251_0; try clear hx253_0; try clear hx253_1; try clear hx253_10; try clear hx253_11; try clear hx253_12; try clear hx253_2; try clear hx253_3; try clear hx253_4; try clear hx253_5; try clear hx253_6; try clear hx253_7; try clear hx253_8; try clear hx253_9; try clear p2; try clear p24; try clear p249; try clear p25; try clear p251; try clear p253; try clear p6; try clear q2; try clear q24; try clear q249; try clear q25; try clear q251; try clear q253
           obtain ⟨x62_4, rfl, HA, HK4, BK248, HB⟩ := hrel
           cases gk with
           | zero => exact absurd HA.out (by simp [den_Right.l2])
           | succ k4 =>
            have H := HA.out
            clear HA
            simp only [den_Right.l2] at H
            by_cases c40 : x62_4 < ji39
            ·rw [if_pos c40] at H
             have c40b0 : decide (x62_4 < ji39) = true := decide_eq_true c40
             clear c40
             replace H := Option.bind_eq_some_iff.mp H
             obtain ⟨t255, A410, H⟩ := H
             replace H : ((den_End.f k4 l0_0 l0_1 (wrap64 (x62_4 + 1))).bind fun t256 => (if t255 ≥ t256 then (some 14) else (den_Right.l2 k4 ji39 (wrap64 (x62_4 + 1)) l0_0 l0_1))) = some r := H
             have A41 := aM A410
             clear A410
             replace H := Option.bind_eq_some_iff.mp H
             obtain ⟨t256, A420, H⟩ := H
             replace H : (if t255 ≥ t256 then (some 14) else (den_Right.l2 k4 ji39 (wrap64 (x62_4 + 1)) l0_0 l0_1)) = some r := H
             have A42 := aM A420
             clear A420
             by_cases c43 : t255 ≥ t256
             ·rw [if_pos c43] at H
              have c43b0 : decide (t256 ≤ t255) = true := decide_eq_true c43
              clear c43
              obtain rfl := Option.some.inj H
              try go_wp2
              have n0_ := aM (blk_drew BK248.out)
              have n1_ := aM (lD HB.out)
              clear BK248
              clear HB
              have BK248 := n0_
              have HB := n1_
              clear n0_ n1_
              refine start_ (n := 8) (S := fun w' => w'.cell? ⟨gb248, 0, none⟩ = some (.slice A0_0 l0_0.length c0_0) ∧ w'.cell? ⟨gb248, 1, none⟩ = some (.slice A0_1 l0_1.length c0_1)) (ds := []) #[false, false, false, false, false, false, false, false] (by kernel_rfl) rfl rfl ⟨(blk_cell BK248.out 0).trans rfl, (blk_cell BK248.out 1).trans rfl⟩ (fun hHeld => ?_); refine with_tabW den_Right.tab19 den_Right.bits19 (fun HT_ HW_ => ?_)
              generalize wr.drew = w44 at BK248 HB hHeld ⊢
              refine pure_ (i := 1) (N := some 66) (v := ?_) (a' := ?_) #[false, true, false, false, false, false, false, false] rfl rfl (any_of HT_.out (by kernel_rfl)) (fun _ _ _ h => h) (Or.inl ⟨by rfl, ?_⟩) ?_ ?_
              rotate_left
              ·intro w'
               go_simp
               with_reducible rfl
              rotate_left
              ·simp only [Act.put, sA, sZ, sS, i64_w, i32_w]
               rfl
              refine pure_ (i := 4) (N := some 69) (v := ?_) (a' := ?_) #[false, true, false, false, true, false, false, false] rfl rfl (any_of HT_.out (by kernel_rfl)) (fun _ _ _ h => h) (Or.inl ⟨by rfl, ?_⟩) ?_ ?_
              rotate_left
              ·intro w'
               go_simp
               with_reducible rfl
              rotate_left
              ·simp only [Act.put, sA, sZ, sS, i64_w, i32_w]
               rfl
              refine pure_ (i := 5) (N := some 70) (v := ?_) (a' := ?_) #[false, true, false, false, true, true, false, false] rfl rfl (any_of HT_.out (by kernel_rfl)) (fun _ _ _ h => h) (Or.inl ⟨by rfl, ?_⟩) ?_ ?_
              rotate_left
              ·intro w'
               go_simp
               with_reducible rfl
              rotate_left
              ·simp only [Act.put, sA, sZ, sS, i64_w, i32_w]
               rfl
              refine take_ (i := 0) (N := some 65) (v := ?_) (a' := ?_) #[true, true, false, false, true, true, false, false] rfl rfl (take_ofW HT_.out HW_.out (by kernel_rfl)) (fun _ _ _ h => h) (Or.inl ⟨by rfl, ?_⟩) hHeld ?_ ?_
              rotate_left
              ·rintro w' ⟨s0, s1⟩
               go_simp
               with_reducible rfl
              rotate_left
              ·simp only [Act.put, sA, sZ, sS, i64_w, i32_w]
               rfl
              refine take_ (i := 3) (N := some 68) (v := ?_) (a' := ?_) #[true, true, false, true, true, true, false, false] rfl rfl (take_ofW HT_.out HW_.out (by kernel_rfl)) (fun _ _ _ h => h) (Or.inl ⟨by rfl, ?_⟩) hHeld ?_ ?_
              rotate_left
              ·rintro w' ⟨s0, s1⟩
               go_simp
               with_reducible rfl
              rotate_left
              ·simp only [Act.put, sA, sZ, sS, i64_w, i32_w]
               rfl
              refine one_ (i := 2) (N := some 67) #[true, true, true, true, true, true, false, false] rfl rfl (one_of HT_.out (by kernel_rfl)) (by decide) (fun K hK => ?_)
              refine goes_ Try.func11 (by kernel_rfl) rfl #[.agg #[.slice A0_0 l0_0.length c0_0, .slice A0_1 l0_1.length c0_1], .int .i64 x62_4] (by rfl) rfl rfl (by (try simp only [List.map_toArray, List.map_cons, List.map_nil]); first | done | rfl | (simp only [List.length_drop, List.length_take]; rfl)) ?_
              with_reducible refine (den_End.calls k4 _ _ l0_0 _ _ l0_1 x62_4 t255 _ ?side1 ?side2 ?side3 ?side4 A41.out).mono ?_
              (case side1 => repeat (first | exact (Kd.C_below HR0_0.out HB.out) | (with_reducible refine Kd.C_alloc ?_ _) | (with_reducible refine Kd.C_drewN ?_ _) | (with_reducible refine Kd.C_drew ?_)))
              (case side2 => exact HC0_0.out)
              (case side3 => repeat (first | exact (Kd.C_below HR0_1.out HB.out) | (with_reducible refine Kd.C_alloc ?_ _) | (with_reducible refine Kd.C_drewN ?_ _) | (with_reducible refine Kd.C_drew ?_)))
              (case side4 => exact HC0_1.out)
              rintro e w45 ⟨rfl, hb⟩
              refine ⟨_, rfl, ?_⟩
              have n0_ := aM (blk_below (bX BK248.out) hb)
              have n1_ := aM (below_step (by repeat (first | (with_reducible first | exact HB.out | apply lA | apply lN | apply lD | refine lS ?_ GE248.out) | exact HB.out)) hb)
              clear BK248
              clear HB
              have BK248 := n0_
              have HB := n1_
              clear n0_ n1_
              (try clear hb)
              (try clear hb2)
              (try clear hk)
              (try clear hi)
              refine hK.out _ _ ⟨(blk_cell BK248.out 0).trans rfl, (blk_cell BK248.out 1).trans rfl⟩ (fun hHeld => ?_)
              clear hK K
              refine norm_ (a' := ?_) ?_ ?_
              rotate_left
              ·show Act.put _ (some 67) _ = _
               simp only [Act.put, sA, sZ, sS, i64_w, i32_w]
               rfl
              refine one_ (i := 6) (N := some 71) #[true, true, true, true, true, true, true, false] rfl rfl (one_of HT_.out (by kernel_rfl)) (by decide) (fun K hK => ?_)
              refine goes_ Try.func11 (by kernel_rfl) rfl #[.agg #[.slice A0_0 l0_0.length c0_0, .slice A0_1 l0_1.length c0_1], .int .i64 (wrap64 (x62_4 + 1))] (by rfl) rfl rfl (by (try simp only [List.map_toArray, List.map_cons, List.map_nil]); first | done | rfl | (simp only [List.length_drop, List.length_take]; rfl)) ?_
              with_reducible refine (den_End.calls k4 _ _ l0_0 _ _ l0_1 (wrap64 (x62_4 + 1)) t256 _ ?side1 ?side2 ?side3 ?side4 A42.out).mono ?_
              (case side1 => repeat (first | exact (Kd.C_below HR0_0.out HB.out) | (with_reducible refine Kd.C_alloc ?_ _) | (with_reducible refine Kd.C_drewN ?_ _) | (with_reducible refine Kd.C_drew ?_)))
              (case side2 => exact HC0_0.out)
              (case side3 => repeat (first | exact (Kd.C_below HR0_1.out HB.out) | (with_reducible refine Kd.C_alloc ?_ _) | (with_reducible refine Kd.C_drewN ?_ _) | (with_reducible refine Kd.C_drew ?_)))
              (case side4 => exact HC0_1.out)
              rintro e w46 ⟨rfl, hb⟩
              refine ⟨_, rfl, ?_⟩
              have n0_ := aM (blk_below (bX BK248.out) hb)
              have n1_ := aM (below_step (by repeat (first | (with_reducible first | exact HB.out | apply lA | apply lN | apply lD | refine lS ?_ GE248.out) | exact HB.out)) hb)
              clear BK248
              clear HB
              have BK248 := n0_
              have HB := n1_
              clear n0_ n1_
              (try clear hb)
              (try clear hb2)
              (try clear hk)
              (try clear hi)
              refine hK.out _ _ ⟨(blk_cell BK248.out 0).trans rfl, (blk_cell BK248.out 1).trans rfl⟩ (fun hHeld => ?_)
              clear hK K
              refine norm_ (a' := ?_) ?_ ?_
              rotate_left
              ·show Act.put _ (some 71) _ = _
               simp only [Act.put, sA, sZ, sS, i64_w, i32_w]
               rfl
              refine pure_ (i := 7) (N := some 72) (v := ?_) (a' := ?_) #[true, true, true, true, true, true, true, true] rfl rfl (any_of HT_.out (by kernel_rfl)) (fun _ _ _ h => h) (Or.inl ⟨by rfl, ?_⟩) ?_ ?_
              rotate_left
              ·intro w'
               go_simp
               with_reducible rfl
              rotate_left
              ·simp only [Act.put, sA, sZ, sS, i64_w, i32_w]
               rfl
              refine done_ (done_of HT_.out (by kernel_rfl)) ?_
              try go_wp2
              go_ret
              exact ⟨by first | rfl | (simp [errW_none, errW_some] <;> rfl) | (simp only [← hji39]; first | rfl | (simp [errW_none, errW_some] <;> rfl)) | (simp [*, errW_none, errW_some] <;> rfl), by repeat (first | (with_reducible first | exact HB.out | apply lA | apply lN | apply lD | refine lS ?_ GE248.out) | exact HB.out)⟩
             ·rw [if_neg c43] at H
              have c43b0 : decide (t256 ≤ t255) = false := decide_eq_false c43
              clear c43
              have H' := aM H
              clear H
              try go_wp2
              have n0_ := aM (blk_drew BK248.out)
              have n1_ := aM (lD HB.out)
              clear BK248
              clear HB
              have BK248 := n0_
              have HB := n1_
              clear n0_ n1_
              refine start_ (n := 8) (S := fun w' => w'.cell? ⟨gb248, 0, none⟩ = some (.slice A0_0 l0_0.length c0_0) ∧ w'.cell? ⟨gb248, 1, none⟩ = some (.slice A0_1 l0_1.length c0_1)) (ds := []) #[false, false, false, false, false, false, false, false] (by kernel_rfl) rfl rfl ⟨(blk_cell BK248.out 0).trans rfl, (blk_cell BK248.out 1).trans rfl⟩ (fun hHeld => ?_); refine with_tabW den_Right.tab19 den_Right.bits19 (fun HT_ HW_ => ?_)
              generalize wr.drew = w47 at BK248 HB hHeld ⊢
              refine pure_ (i := 1) (N := some 66) (v := ?_) (a' := ?_) #[false, true, false, false, false, false, false, false] rfl rfl (any_of HT_.out (by kernel_rfl)) (fun _ _ _ h => h) (Or.inl ⟨by rfl, ?_⟩) ?_ ?_
              rotate_left
              ·intro w'
               go_simp
               with_reducible rfl
              rotate_left
              ·simp only [Act.put, sA, sZ, sS, i64_w, i32_w]
               rfl
              refine pure_ (i := 4) (N := some 69) (v := ?_) (a' := ?_) #[false, true, false, false, true, false, false, false] rfl rfl (any_of HT_.out (by kernel_rfl)) (fun _ _ _ h => h) (Or.inl ⟨by rfl, ?_⟩) ?_ ?_
              rotate_left
              ·intro w'
               go_simp
               with_reducible rfl
              rotate_left
              ·simp only [Act.put, sA, sZ, sS, i64_w, i32_w]
               rfl
              refine pure_ (i := 5) (N := some 70) (v := ?_) (a' := ?_) #[false, true, false, false, true, true, false, false] rfl rfl (any_of HT_.out (by kernel_rfl)) (fun _ _ _ h => h) (Or.inl ⟨by rfl, ?_⟩) ?_ ?_
              rotate_left
              ·intro w'
               go_simp
               with_reducible rfl
              rotate_left
              ·simp only [Act.put, sA, sZ, sS, i64_w, i32_w]
               rfl
              refine take_ (i := 0) (N := some 65) (v := ?_) (a' := ?_) #[true, true, false, false, true, true, false, false] rfl rfl (take_ofW HT_.out HW_.out (by kernel_rfl)) (fun _ _ _ h => h) (Or.inl ⟨by rfl, ?_⟩) hHeld ?_ ?_
              rotate_left
              ·rintro w' ⟨s0, s1⟩
               go_simp
               with_reducible rfl
              rotate_left
              ·simp only [Act.put, sA, sZ, sS, i64_w, i32_w]
               rfl
              refine take_ (i := 3) (N := some 68) (v := ?_) (a' := ?_) #[true, true, false, true, true, true, false, false] rfl rfl (take_ofW HT_.out HW_.out (by kernel_rfl)) (fun _ _ _ h => h) (Or.inl ⟨by rfl, ?_⟩) hHeld ?_ ?_
              rotate_left
              ·rintro w' ⟨s0, s1⟩
               go_simp
               with_reducible rfl
              rotate_left
              ·simp only [Act.put, sA, sZ, sS, i64_w, i32_w]
               rfl
              refine one_ (i := 2) (N := some 67) #[true, true, true, true, true, true, false, false] rfl rfl (one_of HT_.out (by kernel_rfl)) (by decide) (fun K hK => ?_)
              refine goes_ Try.func11 (by kernel_rfl) rfl #[.agg #[.slice A0_0 l0_0.length c0_0, .slice A0_1 l0_1.length c0_1], .int .i64 x62_4] (by rfl) rfl rfl (by (try simp only [List.map_toArray, List.map_cons, List.map_nil]); first | done | rfl | (simp only [List.length_drop, List.length_take]; rfl)) ?_
              with_reducible refine (den_End.calls k4 _ _ l0_0 _ _ l0_1 x62_4 t255 _ ?side1 ?side2 ?side3 ?side4 A41.out).mono ?_
              (case side1 => repeat (first | exact (Kd.C_below HR0_0.out HB.out) | (with_reducible refine Kd.C_alloc ?_ _) | (with_reducible refine Kd.C_drewN ?_ _) | (with_reducible refine Kd.C_drew ?_)))
              (case side2 => exact HC0_0.out)
              (case side3 => repeat (first | exact (Kd.C_below HR0_1.out HB.out) | (with_reducible refine Kd.C_alloc ?_ _) | (with_reducible refine Kd.C_drewN ?_ _) | (with_reducible refine Kd.C_drew ?_)))
              (case side4 => exact HC0_1.out)
              rintro e w48 ⟨rfl, hb⟩
              refine ⟨_, rfl, ?_⟩
              have n0_ := aM (blk_below (bX BK248.out) hb)
              have n1_ := aM (below_step (by repeat (first | (with_reducible first | exact HB.out | apply lA | apply lN | apply lD | refine lS ?_ GE248.out) | exact HB.out)) hb)
              clear BK248
              clear HB
              have BK248 := n0_
              have HB := n1_
              clear n0_ n1_
              (try clear hb)
              (try clear hb2)
              (try clear hk)
              (try clear hi)
              refine hK.out _ _ ⟨(blk_cell BK248.out 0).trans rfl, (blk_cell BK248.out 1).trans rfl⟩ (fun hHeld => ?_)
              clear hK K
              refine norm_ (a' := ?_) ?_ ?_
              rotate_left
              ·show Act.put _ (some 67) _ = _
               simp only [Act.put, sA, sZ, sS, i64_w, i32_w]
               rfl
              refine one_ (i := 6) (N := some 71) #[true, true, true, true, true, true, true, false] rfl rfl (one_of HT_.out (by kernel_rfl)) (by decide) (fun K hK => ?_)
              refine goes_ Try.func11 (by kernel_rfl) rfl #[.agg #[.slice A0_0 l0_0.length c0_0, .slice A0_1 l0_1.length c0_1], .int .i64 (wrap64 (x62_4 + 1))] (by rfl) rfl rfl (by (try simp only [List.map_toArray, List.map_cons, List.map_nil]); first | done | rfl | (simp only [List.length_drop, List.length_take]; rfl)) ?_
              with_reducible refine (den_End.calls k4 _ _ l0_0 _ _ l0_1 (wrap64 (x62_4 + 1)) t256 _ ?side1 ?side2 ?side3 ?side4 A42.out).mono ?_
              (case side1 => repeat (first | exact (Kd.C_below HR0_0.out HB.out) | (with_reducible refine Kd.C_alloc ?_ _) | (with_reducible refine Kd.C_drewN ?_ _) | (with_reducible refine Kd.C_drew ?_)))
              (case side2 => exact HC0_0.out)
              (case side3 => repeat (first | exact (Kd.C_below HR0_1.out HB.out) | (with_reducible refine Kd.C_alloc ?_ _) | (with_reducible refine Kd.C_drewN ?_ _) | (with_reducible refine Kd.C_drew ?_)))
              (case side4 => exact HC0_1.out)
              rintro e w49 ⟨rfl, hb⟩
              refine ⟨_, rfl, ?_⟩
              have n0_ := aM (blk_below (bX BK248.out) hb)
              have n1_ := aM (below_step (by repeat (first | (with_reducible first | exact HB.out | apply lA | apply lN | apply lD | refine lS ?_ GE248.out) | exact HB.out)) hb)
              clear BK248
              clear HB
              have BK248 := n0_
              have HB := n1_
              clear n0_ n1_
              (try clear hb)
              (try clear hb2)
              (try clear hk)
              (try clear hi)
              refine hK.out _ _ ⟨(blk_cell BK248.out 0).trans rfl, (blk_cell BK248.out 1).trans rfl⟩ (fun hHeld => ?_)
              clear hK K
              refine norm_ (a' := ?_) ?_ ?_
              rotate_left
              ·show Act.put _ (some 71) _ = _
               simp only [Act.put, sA, sZ, sS, i64_w, i32_w]
               rfl
              refine pure_ (i := 7) (N := some 72) (v := ?_) (a' := ?_) #[true, true, true, true, true, true, true, true] rfl rfl (any_of HT_.out (by kernel_rfl)) (fun _ _ _ h => h) (Or.inl ⟨by rfl, ?_⟩) ?_ ?_
              rotate_left
              ·intro w'
               go_simp
               with_reducible rfl
              rotate_left
              ·simp only [Act.put, sA, sZ, sS, i64_w, i32_w]
               rfl
              refine done_ (done_of HT_.out (by kernel_rfl)) ?_
              try go_wp2
              go_roundg k4
              case measure => have := HJ1.out; have := HK2.out; have := HK3.out; have := HK4.out; omega
              case rel => exact ⟨(wrap64 (x62_4 + 1)), (by first | rfl | (simp; done) | (simp [*]; done)), H', ⟨by have := HJ1.out; have := HK2.out; have := HK3.out; have := HK4.out; omega⟩, ⟨by (with_reducible repeat first | apply bN | apply bD | apply bA); exact BK248.out⟩, ⟨by repeat (first | (with_reducible first | exact HB.out | apply lA | apply lN | apply lD | refine lS ?_ GE248.out) | exact HB.out)⟩⟩
            ·rw [if_neg c40] at H
             have c40b0 : decide (x62_4 < ji39) = false := decide_eq_false c40
             clear c40
             obtain rfl := Option.some.inj H
             go_wp2
             go_ret
             exact ⟨by first | rfl | (simp [errW_none, errW_some] <;> rfl) | (simp only [← hji39]; first | rfl | (simp [errW_none, errW_some] <;> rfl)) | (simp [*, errW_none, errW_some] <;> rfl), by repeat (first | (with_reducible first | exact HB.out | apply lA | apply lN | apply lD | refine lS ?_ GE248.out) | exact HB.out)⟩
end Go.Proofs.Ytadamegddcadcaa.PDen
