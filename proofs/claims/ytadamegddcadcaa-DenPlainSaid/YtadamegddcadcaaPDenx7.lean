import Derived.Test.YtadamegddcadcaaPDenx0
import Derived.Test.YtadamegddcadcaaPDenx4
import Derived.Test.YtadamegddcadcaaPDenx5
namespace Go.Proofs.Ytadamegddcadcaa.PDen
open Go.Proofs.YtadamegddcadcaaV Go.RowKit Go.Proofs.YtadamegddcadcaaW.PrintWords Go.Proofs.YtadamegddcadcaaW.PrintLast Go.Proofs.YtadamegddcadcaaW.PrintMore
attribute [local go_sem] max2_int min2_int max_two min_two max_three min_three max_four min_four
set_option linter.unusedVariables false
set_option linter.unusedSimpArgs false
def expand_Span.l0 : Nat → Int → Int → Bool → List (S53) → Int → Int → Option (Int × Int × Bool)
 | 0, _, _, _, _, _, _ => none
 | k + 1, x2, x3, x4, x8, x9, x10 => if x10 < x9 then (if 0 ≤ x10 then (if x10 < (x8.length : Int) then (if ((rd_T53 x8 x10).f2) = 10000 then (if x10 = 0 then (expand_Span.l0 k ((rd_T53 x8 x10).f1) ((rd_T53 x8 x10).f1) true x8 x9 (wrap64 (x10 + 1))) else (expand_Span.l0 k (mn x2 ((rd_T53 x8 x10).f1)) (mx x3 ((rd_T53 x8 x10).f1)) true x8 x9 (wrap64 (x10 + 1)))) else (if x10 = 0 then (expand_Span.l0 k ((rd_T53 x8 x10).f1) (mx (mx ((rd_T53 x8 x10).f2) ((rd_T53 x8 x10).f1)) ((rd_T53 x8 x10).f2)) x4 x8 x9 (wrap64 (x10 + 1))) else (expand_Span.l0 k (mn x2 ((rd_T53 x8 x10).f1)) (mx x3 ((rd_T53 x8 x10).f2)) x4 x8 x9 (wrap64 (x10 + 1))))) else (none)) else (none)) else (some (x2, x3, x4))
def expand_Span.f (k : Nat) (l0 : List (S53)) : Option (Int × Int × Bool) := expand_Span.l0 k 0 0 false l0 (l0.length : Int) 0
theorem expand_Span.mono_l : ∀ k, (∀ y0 y1 y2 y3 y4 y5, LeO (expand_Span.l0 k y0 y1 y2 y3 y4 y5) (expand_Span.l0 (k + 1) y0 y1 y2 y3 y4 y5))
 | 0 => fun _ _ _ _ _ _ r h => by simp [expand_Span.l0] at h
 | k + 1 => by
  have ih0 := expand_Span.mono_l k
  ·intro y0 y1 y2 y3 y4 y5
   unfold expand_Span.l0
   repeat' first
   | (with_reducible exact ih0 _ _ _ _ _ _)
   | (with_reducible exact LeO.refl _)
   | (with_reducible exact LeO.none _)
   | (with_reducible refine LeO.ite ?_ ?_)
   | (with_reducible refine LeO.bind ?_ (fun _ => ?_))
   | exact ih0 _ _ _ _ _ _
   | exact LeO.none _
   | refine LeO.ite ?_ ?_
   | refine LeO.bind ?_ (fun _ => ?_)
theorem expand_Span.mono : ∀ a0 k, LeO (expand_Span.f k a0) (expand_Span.f (k + 1) a0) := by
 intro a0 k
 have ih0 := expand_Span.mono_l k
 unfold expand_Span.f
 repeat' first
   | (with_reducible exact ih0 _ _ _ _ _ _)
   | (with_reducible exact LeO.refl _)
   | (with_reducible exact LeO.none _)
   | (with_reducible refine LeO.ite ?_ ?_)
   | (with_reducible refine LeO.bind ?_ (fun _ => ?_))
   | exact ih0 _ _ _ _ _ _
   | exact LeO.none _
   | refine LeO.ite ?_ ?_
   | refine LeO.bind ?_ (fun _ => ?_)
set_option maxHeartbeats 8000000 in
set_option maxRecDepth 100000 in
theorem expand_Span.calls (k : Nat) (A0 : Option Addr) (c0 : Nat) (l0 : List (S53)) (r1 : Int) (r2 : Int) (r3 : Bool) (w : World) (hr0 : Kd.C k53 w A0 l0.length l0) (hc0 : l0.length ≤ c0) (h : expand_Span.f k l0 = some (r1, r2, r3)) :
  Calls Try.prog 37 #[.slice A0 l0.length c0] w fun e w' => e = .returned (.tuple #[.int .i64 r1, .int .i64 r2, .bool r3]) ∧ Below w.heap.size w w' := by
 have hu53 := Try.underlying53
 have HR0 := aM hr0
 have HC0 := aM hc0
 clear hr0 hc0
 have HB := aM (Below.refl w.heap.size w)
 have H : (expand_Span.l0 k 0 0 false l0 (l0.length : Int) 0) = some (r1, r2, r3) := h
 clear h
 have H' := aM H
 clear H
 go_enter Try.func37, Try.ntmps37
 go_wp2
 repeat (go_quiet (fail); try go_wp2)
 go_loopg [2, 3, 4, 10] k (fun kq v2 v3 v4 v10 w' => ∃ (x2_1 : Int) (x3_1 : Int) (x4_1 : Bool) (x10_1 : Int), v2 = .int .i64 x2_1 ∧ v3 = .int .i64 x3_1 ∧ v4 = .bool x4_1 ∧ v10 = .int .i64 x10_1 ∧ Aside0 (expand_Span.l0 kq x2_1 x3_1 x4_1 l0 (l0.length : Int) x10_1 = some (r1, r2, r3)) ∧ Aside0 (kq ≤ k) ∧ Aside0 (Below w.heap.size w w'))
 case atStart => exact ⟨(0), (0), (false), (0), (by first | rfl | (simp; done) | (simp [*]; done)), (by first | rfl | (simp; done) | (simp [*]; done)), (by first | rfl | (simp; done) | (simp [*]; done)), (by first | rfl | (simp; done) | (simp [*]; done)), H', ⟨Nat.le_refl _⟩, ⟨by repeat (first | (with_reducible first | exact HB.out | apply lA | apply lN | apply lD) | exact HB.out)⟩⟩
 case round =>
  clear H'
  obtain ⟨x2_1, x3_1, x4_1, x10_1, rfl, rfl, rfl, rfl, HA, HK1, HB⟩ := hrel
  cases gk with
  | zero => exact absurd HA.out (by simp [expand_Span.l0])
  | succ k1 =>
   have H := HA.out
   clear HA
   simp only [expand_Span.l0] at H
   by_cases c2 : x10_1 < (l0.length : Int)
   ·rw [if_pos c2] at H
    have c2b0 : decide (x10_1 < (l0.length : Int)) = true := decide_eq_true c2
    clear c2
    by_cases c3 : 0 ≤ x10_1
    ·rw [if_pos c3] at H
     have c3b0 : decide (0 ≤ x10_1) = true := decide_eq_true c3
     clear c3
     by_cases c4 : x10_1 < (l0.length : Int)
     ·rw [if_pos c4] at H
      have c4b0 : decide (x10_1 < (l0.length : Int)) = true := decide_eq_true c4
      clear c4
      by_cases c5 : ((rd_T53 l0 x10_1).f2) = 10000
      ·rw [if_pos c5] at H
       have c5b0 : (((rd_T53 l0 x10_1).f2) == 10000) = true := beq_iff_eq.mpr c5
       have c5b1 : (((rd_T53 l0 x10_1).f2) != 10000) = false := bne_eq_false_iff_eq.mpr c5
       clear c5
       by_cases c6 : x10_1 = 0
       ·rw [if_pos c6] at H
        have c6b0 : (x10_1 == 0) = true := beq_iff_eq.mpr c6
        have c6b1 : (x10_1 != 0) = false := bne_eq_false_iff_eq.mpr c6
        clear c6
        have H' := aM H
        clear H
        have p157 : 0 ≤ (x10_1 : Int) := of_decide_eq_true (by assumption)
        have q157 : x10_1 < (l0.length : Int) := of_decide_eq_true (by assumption)
        obtain ⟨ad157, e157, hx157_0, hx157_1, hx157_2, hx157_3, hx157_4, hx157_5, hx157_6, hx157_7, hx157_8, hx157_9, hx157_10⟩ := at_T53 HR0.out x10_1 p157 q157
        cases e157
        replace hx157_0 := (HB.out.cell (wB w _ hx157_0)).trans hx157_0
        replace hx157_1 := (HB.out.cell (wB w _ hx157_1)).trans hx157_1
        replace hx157_2 := (HB.out.cell (wB w _ hx157_2)).trans hx157_2
        replace hx157_3 := (HB.out.cell (wB w _ hx157_3)).trans hx157_3
        replace hx157_4 := (HB.out.cell (wB w _ hx157_4)).trans hx157_4
        replace hx157_5 := (HB.out.cell (wB w _ hx157_5)).trans hx157_5
        replace hx157_6 := (HB.out.cell (wB w _ hx157_6)).trans hx157_6
        replace hx157_7 := (HB.out.cell (wB w _ hx157_7)).trans hx157_7
        replace hx157_8 := (HB.out.cell (wB w _ hx157_8)).trans hx157_8
        replace hx157_9 := (HB.out.cell (wB w _ hx157_9)).trans hx157_9
        replace hx157_10 := (HB.out.cell (wB w _ hx157_10)).trans hx157_10
        replace p157 := eq_true p157
        replace q157 := eq_true q157
        go_wp2_with (first | ((with_reducible refine gate_dst (N := 6) rfl ?_); refine box_event ?hg (N := 6) ?hd (cs := #[.string (⟨#[]⟩ : ByteArray), .int .i64 0, .int .i64 0, .int .i64 0, .int .i64 0, .int .i64 0, .int .i64 0, .int .i64 0, .int .i64 0, .int .i64 0, .string (⟨#[]⟩ : ByteArray)]) (t := 53) ?hr ?_; (case hd => rfl); (case hg => rfl); (case hr => first | (go_simp; done) | (go_simp; rfl)); intro gb158 hg w7 hbox hb; have n0_ := aM (below_step (by repeat (first | (with_reducible first | exact HB.out | apply lA | apply lN | apply lD) | exact HB.out)) hb); have n1_ := aM (hbox); have n2_ := aM ((by rw [hg]; exact (below_size (by repeat (first | (with_reducible first | exact HB.out | apply lA | apply lN | apply lD) | exact HB.out))) : w.heap.size ≤ gb158)); have n3_ := aM ((by rw [hg]; exact (below_size (by repeat (first | (with_reducible first | exact HB.out | apply lA | apply lN | apply lD) | exact HB.out))) : w.heap.size ≤ gb158)); clear HB; have HB := n0_; have BK158 := n1_; have GW158 := n2_; have GE158 := n3_; clear n0_ n1_ n2_ n3_; clear hb hbox hg; obtain ⟨hcz8_0, hcz8_1, hcz8_2, hcz8_3, hcz8_4, hcz8_5, hcz8_6, hcz8_7, hcz8_8, hcz8_9, hcz8_10⟩ := blkC11 BK158.out; obtain ⟨hfz8_0, hfz8_1, hfz8_2, hfz8_3, hfz8_4, hfz8_5, hfz8_6, hfz8_7, hfz8_8, hfz8_9, hfz8_10⟩ := blkF11 BK158.out))
        repeat (go_quiet (first | ((with_reducible refine gate_dst (N := 6) rfl ?_); refine box_event ?hg (N := 6) ?hd (cs := #[.string (⟨#[]⟩ : ByteArray), .int .i64 0, .int .i64 0, .int .i64 0, .int .i64 0, .int .i64 0, .int .i64 0, .int .i64 0, .int .i64 0, .int .i64 0, .string (⟨#[]⟩ : ByteArray)]) (t := 53) ?hr ?_; (case hd => rfl); (case hg => rfl); (case hr => first | (go_simp; done) | (go_simp; rfl)); intro gb158 hg w7 hbox hb; have n0_ := aM (below_step (by repeat (first | (with_reducible first | exact HB.out | apply lA | apply lN | apply lD) | exact HB.out)) hb); have n1_ := aM (hbox); have n2_ := aM ((by rw [hg]; exact (below_size (by repeat (first | (with_reducible first | exact HB.out | apply lA | apply lN | apply lD) | exact HB.out))) : w.heap.size ≤ gb158)); have n3_ := aM ((by rw [hg]; exact (below_size (by repeat (first | (with_reducible first | exact HB.out | apply lA | apply lN | apply lD) | exact HB.out))) : w.heap.size ≤ gb158)); clear HB; have HB := n0_; have BK158 := n1_; have GW158 := n2_; have GE158 := n3_; clear n0_ n1_ n2_ n3_; clear hb hbox hg; obtain ⟨hcz8_0, hcz8_1, hcz8_2, hcz8_3, hcz8_4, hcz8_5, hcz8_6, hcz8_7, hcz8_8, hcz8_9, hcz8_10⟩ := blkC11 BK158.out; obtain ⟨hfz8_0, hfz8_1, hfz8_2, hfz8_3, hfz8_4, hfz8_5, hfz8_6, hfz8_7, hfz8_8, hfz8_9, hfz8_10⟩ := blkF11 BK158.out)); try go_wp2_with (first | ((with_reducible refine gate_dst (N := 6) rfl ?_); refine box_event ?hg (N := 6) ?hd (cs := #[.string (⟨#[]⟩ : ByteArray), .int .i64 0, .int .i64 0, .int .i64 0, .int .i64 0, .int .i64 0, .int .i64 0, .int .i64 0, .int .i64 0, .int .i64 0, .string (⟨#[]⟩ : ByteArray)]) (t := 53) ?hr ?_; (case hd => rfl); (case hg => rfl); (case hr => first | (go_simp; done) | (go_simp; rfl)); intro gb158 hg w7 hbox hb; have n0_ := aM (below_step (by repeat (first | (with_reducible first | exact HB.out | apply lA | apply lN | apply lD) | exact HB.out)) hb); have n1_ := aM (hbox); have n2_ := aM ((by rw [hg]; exact (below_size (by repeat (first | (with_reducible first | exact HB.out | apply lA | apply lN | apply lD) | exact HB.out))) : w.heap.size ≤ gb158)); have n3_ := aM ((by rw [hg]; exact (below_size (by repeat (first | (with_reducible first | exact HB.out | apply lA | apply lN | apply lD) | exact HB.out))) : w.heap.size ≤ gb158)); clear HB; have HB := n0_; have BK158 := n1_; have GW158 := n2_; have GE158 := n3_; clear n0_ n1_ n2_ n3_; clear hb hbox hg; obtain ⟨hcz8_0, hcz8_1, hcz8_2, hcz8_3, hcz8_4, hcz8_5, hcz8_6, hcz8_7, hcz8_8, hcz8_9, hcz8_10⟩ := blkC11 BK158.out; obtain ⟨hfz8_0, hfz8_1, hfz8_2, hfz8_3, hfz8_4, hfz8_5, hfz8_6, hfz8_7, hfz8_8, hfz8_9, hfz8_10⟩ := blkF11 BK158.out)))
        go_roundg k1
        case measure => have := HK1.out; omega
        case rel => exact ⟨((rd_T53 l0 x10_1).f1), ((rd_T53 l0 x10_1).f1), (true), (wrap64 (x10_1 + 1)), (by first | rfl | (simp; done) | (simp [*]; done)), (by first | rfl | (simp; done) | (simp [*]; done)), (by first | rfl | (simp; done) | (simp [*]; done)), (by first | rfl | (simp; done) | (simp [*]; done)), H', ⟨by have := HK1.out; omega⟩, ⟨by repeat (first | (with_reducible first | exact HB.out | apply lA | apply lN | apply lD | refine lS ?_ GE158.out) | exact HB.out)⟩⟩
       ·rw [if_neg c6] at H
        have c6b0 : (x10_1 == 0) = false := beq_eq_false_iff_ne.mpr c6
        have c6b1 : (x10_1 != 0) = true := bne_iff_ne.mpr c6
        obtain ⟨ji9, hji9⟩ : ∃ j_ : Int, (mn x2_1 ((rd_T53 l0 x10_1).f1)) = j_ := ⟨_, rfl⟩
        replace H : (expand_Span.l0 k1 ji9 (mx x3_1 ((rd_T53 l0 x10_1).f1)) true l0 (l0.length : Int) (wrap64 (x10_1 + 1))) = some (r1, r2, r3) := by first | (rw [hji9] at H; exact H) | (simp only [hji9] at H ⊢; exact H)
        have hji9_ : (if ((rd_T53 l0 x10_1).f1) < x2_1 then ((rd_T53 l0 x10_1).f1) else x2_1) = ji9 := hji9
        obtain ⟨ji10, hji10⟩ : ∃ j_ : Int, (mx x3_1 ((rd_T53 l0 x10_1).f1)) = j_ := ⟨_, rfl⟩
        replace H : (expand_Span.l0 k1 ji9 ji10 true l0 (l0.length : Int) (wrap64 (x10_1 + 1))) = some (r1, r2, r3) := by first | (rw [hji10] at H; exact H) | (simp only [hji10] at H ⊢; exact H)
        have hji10_ : (if x3_1 < ((rd_T53 l0 x10_1).f1) then ((rd_T53 l0 x10_1).f1) else x3_1) = ji10 := hji10
        have H' := aM H
        clear H
        have p157 : 0 ≤ (x10_1 : Int) := of_decide_eq_true (by assumption)
        have q157 : x10_1 < (l0.length : Int) := of_decide_eq_true (by assumption)
        obtain ⟨ad157, e157, hx157_0, hx157_1, hx157_2, hx157_3, hx157_4, hx157_5, hx157_6, hx157_7, hx157_8, hx157_9, hx157_10⟩ := at_T53 HR0.out x10_1 p157 q157
        cases e157
        replace hx157_0 := (HB.out.cell (wB w _ hx157_0)).trans hx157_0
        replace hx157_1 := (HB.out.cell (wB w _ hx157_1)).trans hx157_1
        replace hx157_2 := (HB.out.cell (wB w _ hx157_2)).trans hx157_2
        replace hx157_3 := (HB.out.cell (wB w _ hx157_3)).trans hx157_3
        replace hx157_4 := (HB.out.cell (wB w _ hx157_4)).trans hx157_4
        replace hx157_5 := (HB.out.cell (wB w _ hx157_5)).trans hx157_5
        replace hx157_6 := (HB.out.cell (wB w _ hx157_6)).trans hx157_6
        replace hx157_7 := (HB.out.cell (wB w _ hx157_7)).trans hx157_7
        replace hx157_8 := (HB.out.cell (wB w _ hx157_8)).trans hx157_8
        replace hx157_9 := (HB.out.cell (wB w _ hx157_9)).trans hx157_9
        replace hx157_10 := (HB.out.cell (wB w _ hx157_10)).trans hx157_10
        replace p157 := eq_true p157
        replace q157 := eq_true q157
        go_wp2_with (first | ((with_reducible refine gate_dst (N := 6) rfl ?_); refine box_event ?hg (N := 6) ?hd (cs := #[.string (⟨#[]⟩ : ByteArray), .int .i64 0, .int .i64 0, .int .i64 0, .int .i64 0, .int .i64 0, .int .i64 0, .int .i64 0, .int .i64 0, .int .i64 0, .string (⟨#[]⟩ : ByteArray)]) (t := 53) ?hr ?_; (case hd => rfl); (case hg => rfl); (case hr => first | (go_simp; done) | (go_simp; rfl)); intro gb158 hg w11 hbox hb; have n0_ := aM (below_step (by repeat (first | (with_reducible first | exact HB.out | apply lA | apply lN | apply lD) | exact HB.out)) hb); have n1_ := aM (hbox); have n2_ := aM ((by rw [hg]; exact (below_size (by repeat (first | (with_reducible first | exact HB.out | apply lA | apply lN | apply lD) | exact HB.out))) : w.heap.size ≤ gb158)); have n3_ := aM ((by rw [hg]; exact (below_size (by repeat (first | (with_reducible first | exact HB.out | apply lA | apply lN | apply lD) | exact HB.out))) : w.heap.size ≤ gb158)); clear HB; have HB := n0_; have BK158 := n1_; have GW158 := n2_; have GE158 := n3_; clear n0_ n1_ n2_ n3_; clear hb hbox hg; obtain ⟨hcz12_0, hcz12_1, hcz12_2, hcz12_3, hcz12_4, hcz12_5, hcz12_6, hcz12_7, hcz12_8, hcz12_9, hcz12_10⟩ := blkC11 BK158.out; obtain ⟨hfz12_0, hfz12_1, hfz12_2, hfz12_3, hfz12_4, hfz12_5, hfz12_6, hfz12_7, hfz12_8, hfz12_9, hfz12_10⟩ := blkF11 BK158.out))
        repeat (go_quiet (first | ((with_reducible refine gate_dst (N := 6) rfl ?_); refine box_event ?hg (N := 6) ?hd (cs := #[.string (⟨#[]⟩ : ByteArray), .int .i64 0, .int .i64 0, .int .i64 0, .int .i64 0, .int .i64 0, .int .i64 0, .int .i64 0, .int .i64 0, .int .i64 0, .string (⟨#[]⟩ : ByteArray)]) (t := 53) ?hr ?_; (case hd => rfl); (case hg => rfl); (case hr => first | (go_simp; done) | (go_simp; rfl)); intro gb158 hg w11 hbox hb; have n0_ := aM (below_step (by repeat (first | (with_reducible first | exact HB.out | apply lA | apply lN | apply lD) | exact HB.out)) hb); have n1_ := aM (hbox); have n2_ := aM ((by rw [hg]; exact (below_size (by repeat (first | (with_reducible first | exact HB.out | apply lA | apply lN | apply lD) | exact HB.out))) : w.heap.size ≤ gb158)); have n3_ := aM ((by rw [hg]; exact (below_size (by repeat (first | (with_reducible first | exact HB.out | apply lA | apply lN | apply lD) | exact HB.out))) : w.heap.size ≤ gb158)); clear HB; have HB := n0_; have BK158 := n1_; have GW158 := n2_; have GE158 := n3_; clear n0_ n1_ n2_ n3_; clear hb hbox hg; obtain ⟨hcz12_0, hcz12_1, hcz12_2, hcz12_3, hcz12_4, hcz12_5, hcz12_6, hcz12_7, hcz12_8, hcz12_9, hcz12_10⟩ := blkC11 BK158.out; obtain ⟨hfz12_0, hfz12_1, hfz12_2, hfz12_3, hfz12_4, hfz12_5, hfz12_6, hfz12_7, hfz12_8, hfz12_9, hfz12_10⟩ := blkF11 BK158.out)); try go_wp2_with (first | ((with_reducible refine gate_dst (N := 6) rfl ?_); refine box_event ?hg (N := 6) ?hd (cs := #[.string (⟨#[]⟩ : ByteArray), .int .i64 0, .int .i64 0, .int .i64 0, .int .i64 0, .int .i64 0, .int .i64 0, .int .i64 0, .int .i64 0, .int .i64 0, .string (⟨#[]⟩ : ByteArray)]) (t := 53) ?hr ?_; (case hd => rfl); (case hg => rfl); (case hr => first | (go_simp; done) | (go_simp; rfl)); intro gb158 hg w11 hbox hb; have n0_ := aM (below_step (by repeat (first | (with_reducible first | exact HB.out | apply lA | apply lN | apply lD) | exact HB.out)) hb); have n1_ := aM (hbox); have n2_ := aM ((by rw [hg]; exact (below_size (by repeat (first | (with_reducible first | exact HB.out | apply lA | apply lN | apply lD) | exact HB.out))) : w.heap.size ≤ gb158)); have n3_ := aM ((by rw [hg]; exact (below_size (by repeat (first | (with_reducible first | exact HB.out | apply lA | apply lN | apply lD) | exact HB.out))) : w.heap.size ≤ gb158)); clear HB; have HB := n0_; have BK158 := n1_; have GW158 := n2_; have GE158 := n3_; clear n0_ n1_ n2_ n3_; clear hb hbox hg; obtain ⟨hcz12_0, hcz12_1, hcz12_2, hcz12_3, hcz12_4, hcz12_5, hcz12_6, hcz12_7, hcz12_8, hcz12_9, hcz12_10⟩ := blkC11 BK158.out; obtain ⟨hfz12_0, hfz12_1, hfz12_2, hfz12_3, hfz12_4, hfz12_5, hfz12_6, hfz12_7, hfz12_8, hfz12_9, hfz12_10⟩ := blkF11 BK158.out)))
        go_roundg k1
        case measure => have := HK1.out; omega
        case rel => exact ⟨(ji9), (ji10), (true), (wrap64 (x10_1 + 1)), (by first | rfl | (simp; done) | (simp only [← hji9] <;> (first | rfl | (simp; done))) | (simp [*]; done) | (simp only [← hji9, ← hji10, mx, mn]; (repeat' split) <;> first | omega | (simp_all; done) | (simp_all; omega))), (by first | rfl | (simp; done) | (simp only [← hji10] <;> (first | rfl | (simp; done))) | (simp [*]; done) | (simp only [← hji9, ← hji10, mx, mn]; (repeat' split) <;> first | omega | (simp_all; done) | (simp_all; omega))), (by first | rfl | (simp; done) | (simp [*]; done)), (by first | rfl | (simp; done) | (simp [*]; done)), H', ⟨by have := HK1.out; omega⟩, ⟨by repeat (first | (with_reducible first | exact HB.out | apply lA | apply lN | apply lD | refine lS ?_ GE158.out) | exact HB.out)⟩⟩
      ·rw [if_neg c5] at H
       have c5b0 : (((rd_T53 l0 x10_1).f2) == 10000) = false := beq_eq_false_iff_ne.mpr c5
       have c5b1 : (((rd_T53 l0 x10_1).f2) != 10000) = true := bne_iff_ne.mpr c5
       by_cases c13 : x10_1 = 0
       ·rw [if_pos c13] at H
        have c13b0 : (x10_1 == 0) = true := beq_iff_eq.mpr c13
        have c13b1 : (x10_1 != 0) = false := bne_eq_false_iff_eq.mpr c13
        clear c13
        obtain ⟨ji14, hji14⟩ : ∃ j_ : Int, (mx ((rd_T53 l0 x10_1).f2) ((rd_T53 l0 x10_1).f1)) = j_ := ⟨_, rfl⟩
        replace H : (expand_Span.l0 k1 ((rd_T53 l0 x10_1).f1) (mx (ji14) ((rd_T53 l0 x10_1).f2)) x4_1 l0 (l0.length : Int) (wrap64 (x10_1 + 1))) = some (r1, r2, r3) := by first | (rw [hji14] at H; exact H) | (simp only [hji14] at H ⊢; exact H)
        have hji14_ : (if ((rd_T53 l0 x10_1).f2) < ((rd_T53 l0 x10_1).f1) then ((rd_T53 l0 x10_1).f1) else ((rd_T53 l0 x10_1).f2)) = ji14 := hji14
        obtain ⟨ji15, hji15⟩ : ∃ j_ : Int, (mx (ji14) ((rd_T53 l0 x10_1).f2)) = j_ := ⟨_, rfl⟩
        replace H : (expand_Span.l0 k1 ((rd_T53 l0 x10_1).f1) ji15 x4_1 l0 (l0.length : Int) (wrap64 (x10_1 + 1))) = some (r1, r2, r3) := by first | (rw [hji15] at H; exact H) | (simp only [hji15] at H ⊢; exact H)
        have hji15_ : (if (ji14) < ((rd_T53 l0 x10_1).f2) then ((rd_T53 l0 x10_1).f2) else (ji14)) = ji15 := hji15
        have H' := aM H
        clear H
        have p157 : 0 ≤ (x10_1 : Int) := of_decide_eq_true (by assumption)
        have q157 : x10_1 < (l0.length : Int) := of_decide_eq_true (by assumption)
        obtain ⟨ad157, e157, hx157_0, hx157_1, hx157_2, hx157_3, hx157_4, hx157_5, hx157_6, hx157_7, hx157_8, hx157_9, hx157_10⟩ := at_T53 HR0.out x10_1 p157 q157
        cases e157
        replace hx157_0 := (HB.out.cell (wB w _ hx157_0)).trans hx157_0
        replace hx157_1 := (HB.out.cell (wB w _ hx157_1)).trans hx157_1
        replace hx157_2 := (HB.out.cell (wB w _ hx157_2)).trans hx157_2
        replace hx157_3 := (HB.out.cell (wB w _ hx157_3)).trans hx157_3
        replace hx157_4 := (HB.out.cell (wB w _ hx157_4)).trans hx157_4
        replace hx157_5 := (HB.out.cell (wB w _ hx157_5)).trans hx157_5
        replace hx157_6 := (HB.out.cell (wB w _ hx157_6)).trans hx157_6
        replace hx157_7 := (HB.out.cell (wB w _ hx157_7)).trans hx157_7
        replace hx157_8 := (HB.out.cell (wB w _ hx157_8)).trans hx157_8
        replace hx157_9 := (HB.out.cell (wB w _ hx157_9)).trans hx157_9
        replace hx157_10 := (HB.out.cell (wB w _ hx157_10)).trans hx157_10
        replace p157 := eq_true p157
        replace q157 := eq_true q157
        go_wp2_with (first | ((with_reducible refine gate_dst (N := 6) rfl ?_); refine box_event ?hg (N := 6) ?hd (cs := #[.string (⟨#[]⟩ : ByteArray), .int .i64 0, .int .i64 0, .int .i64 0, .int .i64 0, .int .i64 0, .int .i64 0, .int .i64 0, .int .i64 0, .int .i64 0, .string (⟨#[]⟩ : ByteArray)]) (t := 53) ?hr ?_; (case hd => rfl); (case hg => rfl); (case hr => first | (go_simp; done) | (go_simp; rfl)); intro gb158 hg w16 hbox hb; have n0_ := aM (below_step (by repeat (first | (with_reducible first | exact HB.out | apply lA | apply lN | apply lD) | exact HB.out)) hb); have n1_ := aM (hbox); have n2_ := aM ((by rw [hg]; exact (below_size (by repeat (first | (with_reducible first | exact HB.out | apply lA | apply lN | apply lD) | exact HB.out))) : w.heap.size ≤ gb158)); have n3_ := aM ((by rw [hg]; exact (below_size (by repeat (first | (with_reducible first | exact HB.out | apply lA | apply lN | apply lD) | exact HB.out))) : w.heap.size ≤ gb158)); clear HB; have HB := n0_; have BK158 := n1_; have GW158 := n2_; have GE158 := n3_; clear n0_ n1_ n2_ n3_; clear hb hbox hg; obtain ⟨hcz17_0, hcz17_1, hcz17_2, hcz17_3, hcz17_4, hcz17_5, hcz17_6, hcz17_7, hcz17_8, hcz17_9, hcz17_10⟩ := blkC11 BK158.out; obtain ⟨hfz17_0, hfz17_1, hfz17_2, hfz17_3, hfz17_4, hfz17_5, hfz17_6, hfz17_7, hfz17_8, hfz17_9, hfz17_10⟩ := blkF11 BK158.out))
        repeat (go_quiet (first | ((with_reducible refine gate_dst (N := 6) rfl ?_); refine box_event ?hg (N := 6) ?hd (cs := #[.string (⟨#[]⟩ : ByteArray), .int .i64 0, .int .i64 0, .int .i64 0, .int .i64 0, .int .i64 0, .int .i64 0, .int .i64 0, .int .i64 0, .int .i64 0, .string (⟨#[]⟩ : ByteArray)]) (t := 53) ?hr ?_; (case hd => rfl); (case hg => rfl); (case hr => first | (go_simp; done) | (go_simp; rfl)); intro gb158 hg w16 hbox hb; have n0_ := aM (below_step (by repeat (first | (with_reducible first | exact HB.out | apply lA | apply lN | apply lD) | exact HB.out)) hb); have n1_ := aM (hbox); have n2_ := aM ((by rw [hg]; exact (below_size (by repeat (first | (with_reducible first | exact HB.out | apply lA | apply lN | apply lD) | exact HB.out))) : w.heap.size ≤ gb158)); have n3_ := aM ((by rw [hg]; exact (below_size (by repeat (first | (with_reducible first | exact HB.out | apply lA | apply lN | apply lD) | exact HB.out))) : w.heap.size ≤ gb158)); clear HB; have HB := n0_; have BK158 := n1_; have GW158 := n2_; have GE158 := n3_; clear n0_ n1_ n2_ n3_; clear hb hbox hg; obtain ⟨hcz17_0, hcz17_1, hcz17_2, hcz17_3, hcz17_4, hcz17_5, hcz17_6, hcz17_7, hcz17_8, hcz17_9, hcz17_10⟩ := blkC11 BK158.out; obtain ⟨hfz17_0, hfz17_1, hfz17_2, hfz17_3, hfz17_4, hfz17_5, hfz17_6, hfz17_7, hfz17_8, hfz17_9, hfz17_10⟩ := blkF11 BK158.out)); try go_wp2_with (first | ((with_reducible refine gate_dst (N := 6) rfl ?_); refine box_event ?hg (N := 6) ?hd (cs := #[.string (⟨#[]⟩ : ByteArray), .int .i64 0, .int .i64 0, .int .i64 0, .int .i64 0, .int .i64 0, .int .i64 0, .int .i64 0, .int .i64 0, .int .i64 0, .string (⟨#[]⟩ : ByteArray)]) (t := 53) ?hr ?_; (case hd => rfl); (case hg => rfl); (case hr => first | (go_simp; done) | (go_simp; rfl)); intro gb158 hg w16 hbox hb; have n0_ := aM (below_step (by repeat (first | (with_reducible first | exact HB.out | apply lA | apply lN | apply lD) | exact HB.out)) hb); have n1_ := aM (hbox); have n2_ := aM ((by rw [hg]; exact (below_size (by repeat (first | (with_reducible first | exact HB.out | apply lA | apply lN | apply lD) | exact HB.out))) : w.heap.size ≤ gb158)); have n3_ := aM ((by rw [hg]; exact (below_size (by repeat (first | (with_reducible first | exact HB.out | apply lA | apply lN | apply lD) | exact HB.out))) : w.heap.size ≤ gb158)); clear HB; have HB := n0_; have BK158 := n1_; have GW158 := n2_; have GE158 := n3_; clear n0_ n1_ n2_ n3_; clear hb hbox hg; obtain ⟨hcz17_0, hcz17_1, hcz17_2, hcz17_3, hcz17_4, hcz17_5, hcz17_6, hcz17_7, hcz17_8, hcz17_9, hcz17_10⟩ := blkC11 BK158.out; obtain ⟨hfz17_0, hfz17_1, hfz17_2, hfz17_3, hfz17_4, hfz17_5, hfz17_6, hfz17_7, hfz17_8, hfz17_9, hfz17_10⟩ := blkF11 BK158.out)))
        go_roundg k1
        case measure => have := HK1.out; omega
        case rel => exact ⟨((rd_T53 l0 x10_1).f1), (ji15), (x4_1), (wrap64 (x10_1 + 1)), (by first | rfl | (simp; done) | (simp [*]; done)), (by first | rfl | (simp; done) | (simp only [← hji15] <;> (first | rfl | (simp; done))) | (simp [*]; done) | (simp only [← hji14, ← hji15, mx, mn]; (repeat' split) <;> first | omega | (simp_all; done) | (simp_all; omega))), (by first | rfl | (simp; done) | (simp [*]; done)), (by first | rfl | (simp; done) | (simp [*]; done)), H', ⟨by have := HK1.out; omega⟩, ⟨by repeat (first | (with_reducible first | exact HB.out | apply lA | apply lN | apply lD | refine lS ?_ GE158.out) | exact HB.out)⟩⟩
       ·rw [if_neg c13] at H
        have c13b0 : (x10_1 == 0) = false := beq_eq_false_iff_ne.mpr c13
        have c13b1 : (x10_1 != 0) = true := bne_iff_ne.mpr c13
        obtain ⟨ji18, hji18⟩ : ∃ j_ : Int, (mn x2_1 ((rd_T53 l0 x10_1).f1)) = j_ := ⟨_, rfl⟩
        replace H : (expand_Span.l0 k1 ji18 (mx x3_1 ((rd_T53 l0 x10_1).f2)) x4_1 l0 (l0.length : Int) (wrap64 (x10_1 + 1))) = some (r1, r2, r3) := by first | (rw [hji18] at H; exact H) | (simp only [hji18] at H ⊢; exact H)
        have hji18_ : (if ((rd_T53 l0 x10_1).f1) < x2_1 then ((rd_T53 l0 x10_1).f1) else x2_1) = ji18 := hji18
        obtain ⟨ji19, hji19⟩ : ∃ j_ : Int, (mx x3_1 ((rd_T53 l0 x10_1).f2)) = j_ := ⟨_, rfl⟩
        replace H : (expand_Span.l0 k1 ji18 ji19 x4_1 l0 (l0.length : Int) (wrap64 (x10_1 + 1))) = some (r1, r2, r3) := by first | (rw [hji19] at H; exact H) | (simp only [hji19] at H ⊢; exact H)
        have hji19_ : (if x3_1 < ((rd_T53 l0 x10_1).f2) then ((rd_T53 l0 x10_1).f2) else x3_1) = ji19 := hji19
        have H' := aM H
        clear H
        have p157 : 0 ≤ (x10_1 : Int) := of_decide_eq_true (by assumption)
        have q157 : x10_1 < (l0.length : Int) := of_decide_eq_true (by assumption)
        obtain ⟨ad157, e157, hx157_0, hx157_1, hx157_2, hx157_3, hx157_4, hx157_5, hx157_6, hx157_7, hx157_8, hx157_9, hx157_10⟩ := at_T53 HR0.out x10_1 p157 q157
        cases e157
        replace hx157_0 := (HB.out.cell (wB w _ hx157_0)).trans hx157_0
        replace hx157_1 := (HB.out.cell (wB w _ hx157_1)).trans hx157_1
        replace hx157_2 := (HB.out.cell (wB w _ hx157_2)).trans hx157_2
        replace hx157_3 := (HB.out.cell (wB w _ hx157_3)).trans hx157_3
        replace hx157_4 := (HB.out.cell (wB w _ hx157_4)).trans hx157_4
        replace hx157_5 := (HB.out.cell (wB w _ hx157_5)).trans hx157_5
        replace hx157_6 := (HB.out.cell (wB w _ hx157_6)).trans hx157_6
        replace hx157_7 := (HB.out.cell (wB w _ hx157_7)).trans hx157_7
        replace hx157_8 := (HB.out.cell (wB w _ hx157_8)).trans hx157_8
        replace hx157_9 := (HB.out.cell (wB w _ hx157_9)).trans hx157_9
        replace hx157_10 := (HB.out.cell (wB w _ hx157_10)).trans hx157_10
        replace p157 := eq_true p157
        replace q157 := eq_true q157
        go_wp2_with (first | ((with_reducible refine gate_dst (N := 6) rfl ?_); refine box_event ?hg (N := 6) ?hd (cs := #[.string (⟨#[]⟩ : ByteArray), .int .i64 0, .int .i64 0, .int .i64 0, .int .i64 0, .int .i64 0, .int .i64 0, .int .i64 0, .int .i64 0, .int .i64 0, .string (⟨#[]⟩ : ByteArray)]) (t := 53) ?hr ?_; (case hd => rfl); (case hg => rfl); (case hr => first | (go_simp; done) | (go_simp; rfl)); intro gb158 hg w20 hbox hb; have n0_ := aM (below_step (by repeat (first | (with_reducible first | exact HB.out | apply lA | apply lN | apply lD) | exact HB.out)) hb); have n1_ := aM (hbox); have n2_ := aM ((by rw [hg]; exact (below_size (by repeat (first | (with_reducible first | exact HB.out | apply lA | apply lN | apply lD) | exact HB.out))) : w.heap.size ≤ gb158)); have n3_ := aM ((by rw [hg]; exact (below_size (by repeat (first | (with_reducible first | exact HB.out | apply lA | apply lN | apply lD) | exact HB.out))) : w.heap.size ≤ gb158)); clear HB; have HB := n0_; have BK158 := n1_; have GW158 := n2_; have GE158 := n3_; clear n0_ n1_ n2_ n3_; clear hb hbox hg; obtain ⟨hcz21_0, hcz21_1, hcz21_2, hcz21_3, hcz21_4, hcz21_5, hcz21_6, hcz21_7, hcz21_8, hcz21_9, hcz21_10⟩ := blkC11 BK158.out; obtain ⟨hfz21_0, hfz21_1, hfz21_2, hfz21_3, hfz21_4, hfz21_5, hfz21_6, hfz21_7, hfz21_8, hfz21_9, hfz21_10⟩ := blkF11 BK158.out))
        repeat (go_quiet (first | ((with_reducible refine gate_dst (N := 6) rfl ?_); refine box_event ?hg (N := 6) ?hd (cs := #[.string (⟨#[]⟩ : ByteArray), .int .i64 0, .int .i64 0, .int .i64 0, .int .i64 0, .int .i64 0, .int .i64 0, .int .i64 0, .int .i64 0, .int .i64 0, .string (⟨#[]⟩ : ByteArray)]) (t := 53) ?hr ?_; (case hd => rfl); (case hg => rfl); (case hr => first | (go_simp; done) | (go_simp; rfl)); intro gb158 hg w20 hbox hb; have n0_ := aM (below_step (by repeat (first | (with_reducible first | exact HB.out | apply lA | apply lN | apply lD) | exact HB.out)) hb); have n1_ := aM (hbox); have n2_ := aM ((by rw [hg]; exact (below_size (by repeat (first | (with_reducible first | exact HB.out | apply lA | apply lN | apply lD) | exact HB.out))) : w.heap.size ≤ gb158)); have n3_ := aM ((by rw [hg]; exact (below_size (by repeat (first | (with_reducible first | exact HB.out | apply lA | apply lN | apply lD) | exact HB.out))) : w.heap.size ≤ gb158)); clear HB; have HB := n0_; have BK158 := n1_; have GW158 := n2_; have GE158 := n3_; clear n0_ n1_ n2_ n3_; clear hb hbox hg; obtain ⟨hcz21_0, hcz21_1, hcz21_2, hcz21_3, hcz21_4, hcz21_5, hcz21_6, hcz21_7, hcz21_8, hcz21_9, hcz21_10⟩ := blkC11 BK158.out; obtain ⟨hfz21_0, hfz21_1, hfz21_2, hfz21_3, hfz21_4, hfz21_5, hfz21_6, hfz21_7, hfz21_8, hfz21_9, hfz21_10⟩ := blkF11 BK158.out)); try go_wp2_with (first | ((with_reducible refine gate_dst (N := 6) rfl ?_); refine box_event ?hg (N := 6) ?hd (cs := #[.string (⟨#[]⟩ : ByteArray), .int .i64 0, .int .i64 0, .int .i64 0, .int .i64 0, .int .i64 0, .int .i64 0, .int .i64 0, .int .i64 0, .int .i64 0, .string (⟨#[]⟩ : ByteArray)]) (t := 53) ?hr ?_; (case hd => rfl); (case hg => rfl); (case hr => first | (go_simp; done) | (go_simp; rfl)); intro gb158 hg w20 hbox hb; have n0_ := aM (below_step (by repeat (first | (with_reducible first | exact HB.out | apply lA | apply lN | apply lD) | exact HB.out)) hb); have n1_ := aM (hbox); have n2_ := aM ((by rw [hg]; exact (below_size (by repeat (first | (with_reducible first | exact HB.out | apply lA | apply lN | apply lD) | exact HB.out))) : w.heap.size ≤ gb158)); have n3_ := aM ((by rw [hg]; exact (below_size (by repeat (first | (with_reducible first | exact HB.out | apply lA | apply lN | apply lD) | exact HB.out))) : w.heap.size ≤ gb158)); clear HB; have HB := n0_; have BK158 := n1_; have GW158 := n2_; have GE158 := n3_; clear n0_ n1_ n2_ n3_; clear hb hbox hg; obtain ⟨hcz21_0, hcz21_1, hcz21_2, hcz21_3, hcz21_4, hcz21_5, hcz21_6, hcz21_7, hcz21_8, hcz21_9, hcz21_10⟩ := blkC11 BK158.out; obtain ⟨hfz21_0, hfz21_1, hfz21_2, hfz21_3, hfz21_4, hfz21_5, hfz21_6, hfz21_7, hfz21_8, hfz21_9, hfz21_10⟩ := blkF11 BK158.out)))
        go_roundg k1
        case measure => have := HK1.out; omega
        case rel => exact ⟨(ji18), (ji19), (x4_1), (wrap64 (x10_1 + 1)), (by first | rfl | (simp; done) | (simp only [← hji18] <;> (first | rfl | (simp; done))) | (simp [*]; done) | (simp only [← hji18, ← hji19, mx, mn]; (repeat' split) <;> first | omega | (simp_all; done) | (simp_all; omega))), (by first | rfl | (simp; done) | (simp only [← hji19] <;> (first | rfl | (simp; done))) | (simp [*]; done) | (simp only [← hji18, ← hji19, mx, mn]; (repeat' split) <;> first | omega | (simp_all; done) | (simp_all; omega))), (by first | rfl | (simp; done) | (simp [*]; done)), (by first | rfl | (simp; done) | (simp [*]; done)), H', ⟨by have := HK1.out; omega⟩, ⟨by repeat (first | (with_reducible first | exact HB.out | apply lA | apply lN | apply lD | refine lS ?_ GE158.out) | exact HB.out)⟩⟩
     ·rw [if_neg c4] at H
      exact absurd H (by simp)
    ·rw [if_neg c3] at H
     exact absurd H (by simp)
   ·rw [if_neg c2] at H
    have c2b0 : decide (x10_1 < (l0.length : Int)) = false := decide_eq_false c2
    clear c2
    simp only [Option.some.injEq, Prod.mk.injEq] at H
    obtain ⟨rfl, rfl, rfl⟩ := H
    go_wp2
    repeat (go_quiet (fail); try go_wp2)
    go_ret3
    exact ⟨by first | rfl | (simp [errW_none, errW_some] <;> rfl) | (simp [*, errW_none, errW_some] <;> rfl), by repeat (first | (with_reducible first | exact HB.out | apply lA | apply lN | apply lD) | exact HB.out)⟩
def sortFire_ren : Go.Shelf.Ren := ⟨fun | 6 => 56 | 15 => 72 | 14 => 71 | 28 => 86 | 29 => 87 | 20 => 78 | 21 => 79 | 22 => 80 | 23 => 81 | 24 => 82 | 25 => 83 | 26 => 84 | 27 => 85 | 46 => 88 | 47 => 89 | 48 => 90 | 49 => 91 | 50 => 92 | 57 => 93 | n => n, fun | 22 => 80 | 24 => 84 | 25 => 100 | 3 => 3 | 39 => 112 | 0 => 0 | 53 => 124 | 55 => 126 | 4 => 4 | 46 => 118 | 45 => 117 | 50 => 55 | 5 => 5 | 9 => 9 | 66 => 127 | 70 => 131 | 76 => 133 | 77 => 134 | n => n, fun | n => n⟩
theorem sortFire : Go.Proofs.SlLaysF0.n6 Try.prog sortFire_ren := {
  mixed := by kernel_rfl
  f6 := ⟨Try.f56.name, by decide, Try.func56.trans (congrArg some (by kernel_rfl))⟩
  f14 := ⟨Try.f71.name, by decide, Try.func71.trans (congrArg some (by kernel_rfl))⟩
  f15 := Try.func72.trans (congrArg some (by kernel_rfl))
  f20 := ⟨Try.f78.name, by decide, Try.func78.trans (congrArg some (by kernel_rfl))⟩
  f21 := ⟨Try.f79.name, by decide, Try.func79.trans (congrArg some (by kernel_rfl))⟩
  f22 := ⟨Try.f80.name, by decide, Try.func80.trans (congrArg some (by kernel_rfl))⟩
  f23 := ⟨Try.f81.name, by decide, Try.func81.trans (congrArg some (by kernel_rfl))⟩
  f24 := ⟨Try.f82.name, by decide, Try.func82.trans (congrArg some (by kernel_rfl))⟩
  f25 := ⟨Try.f83.name, by decide, Try.func83.trans (congrArg some (by kernel_rfl))⟩
  f26 := ⟨Try.f84.name, by decide, Try.func84.trans (congrArg some (by kernel_rfl))⟩
  f27 := ⟨Try.f85.name, by decide, Try.func85.trans (congrArg some (by kernel_rfl))⟩
  f28 := Try.func86.trans (congrArg some (by kernel_rfl))
  f29 := Try.func87.trans (congrArg some (by kernel_rfl))
  f46 := ⟨Try.f88.name, by decide, Try.func88.trans (congrArg some (by kernel_rfl))⟩
  f47 := Try.func89.trans (congrArg some (by kernel_rfl))
  f48 := Try.func90.trans (congrArg some (by kernel_rfl))
  f49 := ⟨Try.f91.name, by decide, Try.func91.trans (congrArg some (by kernel_rfl))⟩
  f50 := ⟨Try.f92.name, by decide, Try.func92.trans (congrArg some (by kernel_rfl))⟩
  f57 := ⟨Try.f93.name, by decide, Try.func93.trans (congrArg some (by kernel_rfl))⟩
  t0 := Try.underlying0
  a0 := Try.isAgg0
  z0 := Try.sizeOf0
  v0 := Try.zeroValue0
  t3 := Try.underlying3
  a3 := Try.isAgg3
  z3 := Try.sizeOf3
  v3 := Try.zeroValue3
  t4 := Try.underlying4
  a4 := Try.isAgg4
  z4 := Try.sizeOf4
  v4 := Try.zeroValue4
  t5 := Try.underlying5
  a5 := Try.isAgg5
  z5 := Try.sizeOf5
  v5 := Try.zeroValue5
  t9 := Try.underlying9
  a9 := Try.isAgg9
  z9 := Try.sizeOf9
  v9 := Try.zeroValue9
  t22 := Try.underlying80
  a22 := Try.isAgg80
  z22 := Try.sizeOf80
  v22 := Try.zeroValue80
  t25 := Try.underlying100
  a25 := Try.isAgg100
  z25 := Try.sizeOf100
  v25 := Try.zeroValue100
  t39 := Try.underlying112
  a39 := Try.isAgg112
  z39 := Try.sizeOf112
  v39 := Try.zeroValue112
  t45 := Try.underlying117
  a45 := Try.isAgg117
  z45 := Try.sizeOf117
  v45 := Try.zeroValue117
  t46 := Try.underlying118
  a46 := Try.isAgg118
  z46 := Try.sizeOf118
  v46 := Try.zeroValue118
  t50 := Try.underlying55
  a50 := Try.isAgg55
  z50 := Try.sizeOf55
  v50 := Try.zeroValue55
  t53 := Try.underlying124
  a53 := Try.isAgg124
  z53 := Try.sizeOf124
  v53 := Try.zeroValue124
  t55 := Try.underlying126
  a55 := Try.isAgg126
  z55 := Try.sizeOf126
  v55 := Try.zeroValue126
  t66 := Try.underlying127
  a66 := Try.isAgg127
  z66 := Try.sizeOf127
  v66 := Try.zeroValue127
  t70 := Try.underlying131
  a70 := Try.isAgg131
  z70 := Try.sizeOf131
  v70 := Try.zeroValue131
  t76 := Try.underlying133
  a76 := Try.isAgg133
  z76 := Try.sizeOf133
  v76 := Try.zeroValue133
  t77 := Try.underlying134
  a77 := Try.isAgg134
  z77 := Try.sizeOf134
  v77 := Try.zeroValue134 }
instance : Inhabited S84 := ⟨z84⟩
def fireEnc (x : S84) : List Value := [.int .i64 x.f0, .int .i64 x.f1, .int .i64 x.f2, .int .i64 x.f3]
def cmpI (a b : Int) : Int := if a < b then -1 else if a > b then 1 else 0
def fireCmp (x y : S84) : Int := if cmpI x.f1 y.f1 ≠ 0 then cmpI x.f1 y.f1 else if cmpI x.f2 y.f2 ≠ 0 then cmpI x.f2 y.f2 else cmpI x.f0 y.f0
theorem cmp_Compare_int.val (a b : Int) : cmp_Compare_int.f a b = some (cmpI a b) := by
  unfold cmp_Compare_int.f cmp_isNaN_int.f cmpI
  simp only [Option.bind_some, bne_self_eq_false, Bool.false_eq_true, if_false]
  repeat' split
  all_goals rfl
theorem cmp_Compare_int64.val (a b : Int) : cmp_Compare_int64.f a b = some (cmpI a b) := by
  unfold cmp_Compare_int64.f cmp_isNaN_int64.f cmpI
  simp only [Option.bind_some, bne_self_eq_false, Bool.false_eq_true, if_false]
  repeat' split
  all_goals rfl
theorem cmp_Or_int.val3 (k : Nat) (a b c : Int) : cmp_Or_int.f (k + 4) [a, b, c] = some (if a ≠ 0 then a else if b ≠ 0 then b else c) := by
  have w1 : wrap64 (0 + 1) = 1 := by unfold wrap64; omega
  have w2 : wrap64 (1 + 1) = 2 := by unfold wrap64; omega
  have w3 : wrap64 (2 + 1) = 3 := by unfold wrap64; omega
  unfold cmp_Or_int.f
  simp only [cmp_Or_int.l0, w1, w2, w3, List.length_cons, List.length_nil, rd]
  by_cases ha : a = 0 <;> by_cases hb : b = 0 <;> by_cases hc : c = 0 <;> simp [ha, hb, hc]
theorem expand_order.val (k : Nat) (x y : S84) : expand_order.f (k + 4) x.f0 x.f1 x.f2 x.f3 y.f0 y.f1 y.f2 y.f3 = some (fireCmp x y) := by
  unfold expand_order.f fireCmp
  simp only [cmp_Compare_int.val, cmp_Compare_int64.val, Option.bind_some, cmp_Or_int.val3]
theorem fireCmp_lt (x y : S84) : Go.Proofs.ltOf fireCmp x y = decide (x.f1 < y.f1 ∨ x.f1 = y.f1 ∧ (x.f2 < y.f2 ∨ x.f2 = y.f2 ∧ x.f0 < y.f0)) := by
  unfold Go.Proofs.ltOf fireCmp cmpI
  rw [decide_eq_decide]
  repeat' split
  all_goals omega
theorem fireSWO : Go.Sort.SWO (Go.Proofs.ltOf fireCmp) where
  irrefl x := by rw [fireCmp_lt]; simp
  trans x y z h1 h2 := by rw [fireCmp_lt] at *; simp only [decide_eq_true_eq] at *; omega
  ntrans x y z h1 h2 := by rw [fireCmp_lt] at *; simp only [decide_eq_false_iff_not] at *; omega
def fireSort (l : List S84) : List S84 := (Go.Sort.pdq (Go.Proofs.ltOf fireCmp) l.toArray 0 l.toArray.size (Lib.bitLen l.toArray.size) true true).toList
def expand_Fire_56.f (l0 : List S84) : Option (List S84) := if l0.length < 4611686018427387904 then some (fireSort l0) else none
set_option maxRecDepth 100000 in
theorem expand_Fire_56.calls (P0_ : Nat → Prop) (u9000_ : Value) (l0 : List S84) (r : List S84) (w0 w : World) (hB : Below w0.heap.size w0 w) (ho0 : Kd.R k84 84 w w0.heap.size P0_ u9000_ l0) (h : expand_Fire_56.f l0 = some r) :
    Calls Try.prog 56 #[u9000_, .func (.func 55) #[] #[]] w fun e w' => e = .returned (.tuple #[]) ∧ Kd.R k84 84 w' w0.heap.size (fun k_ => (P0_ k_ ∨ w.heap.size ≤ k_)) u9000_ r ∧ Below w0.heap.size w0 w' ∧ Kept w w' (fun k_ => P0_ k_) := by
  unfold expand_Fire_56.f at h
  by_cases hl : l0.length < 4611686018427387904
  · rw [if_pos hl] at h
    obtain rfl := Option.some.inj h
    have eg : ∀ args w, (callFunc 55 args).run Try.prog w = .ok (.enter 55 args) w := enters_of Try.func55 (by kernel_rfl) rfl
    have hcmp : ∀ blk off size w, Go.Proofs.CmpLays Try.prog 55 #[] fireEnc 4 fireCmp blk off size w := by
      intro blk off size w m os dk _ x y
      have hc := expand_order.callsD (0 + 4) x.f0 x.f1 x.f2 x.f3 y.f0 y.f1 y.f2 y.f3 (fireCmp x y) (Go.Proofs.sortWorldK fireEnc 4 w blk off m dk os) (expand_order.val 0 x y)
      refine hc.mono ?_
      rintro e w' ⟨rfl, hb⟩
      exact ⟨rfl, grown_of_belowD hb⟩
    refine sortfunc_row (d := k84) (e := 84) fireEnc (fun {w base ok x cs} => ⟨fun h => k84_openM h, fun h => by subst h; exact k84_mkM w base ok x⟩) (fun _ => rfl) (fun a => Go.Sort.pdq (Go.Proofs.ltOf fireCmp) a 0 a.size (Lib.bitLen a.size) true true)
      (fun a => (Go.Sort.pdq_sorts (Go.Proofs.ltOf fireCmp) fireSWO a 0 a.size (Lib.bitLen a.size) true true (Nat.zero_le _) (Nat.le_refl _) (Or.inl rfl)).1.1) ?_ ?_ hB ho0 hl
    · intro blk cap a w hH hblk hsz
      exact Go.Proofs.AnyQ.slices_SortFunc_eq sortFire 4 Try.isAgg84 Try.sizeOf84 fireEnc (fun _ => rfl) (fun x v hv => by simp [fireEnc] at hv; rcases hv with rfl | rfl | rfl | rfl <;> rfl) fireCmp fireSWO 55 #[] blk 0 cap a w eg (hcmp blk 0 a.size w) hH hblk hsz
    · intro p cap w
      exact Go.Proofs.AnyF.slices_SortFunc_none sortFire p cap _ w
  · rw [if_neg hl] at h
    cases h
end Go.Proofs.Ytadamegddcadcaa.PDen
