import Derived.Test.YtadamegddcadcaaPDenx0
import Derived.Test.YtadamegddcadcaaPDenx2
import Derived.Test.YtadamegddcadcaaPDenx3
import Derived.Test.YtadamegddcadcaaPDenx5
namespace Go.Proofs.Ytadamegddcadcaa.PDen
open Go.Proofs.YtadamegddcadcaaV Go.RowKit Go.Proofs.YtadamegddcadcaaW.PrintWords Go.Proofs.YtadamegddcadcaaW.PrintLast Go.Proofs.YtadamegddcadcaaW.PrintMore
attribute [local go_sem] max2_int min2_int max_two min_two max_three min_three max_four min_four
set_option linter.unusedVariables false
set_option linter.unusedSimpArgs false
mutual
def expand_Letter.l0 : Nat → List (S53) → List (S53) → Int → Int → Bool → Int → Int → Int → Int → Option (ByteArray)
 | 0, _, _, _, _, _, _, _, _, _ => none
 | k + 1, x0, x10, x11, x12, x700, x701, x702, x703, x704 => if x12 < x11 then (if 0 ≤ x12 then (if x12 < (x10.length : Int) then ((expand_lasting_first.f ((rd_T53 x10 x12).f0) ((rd_T53 x10 x12).f1) ((rd_T53 x10 x12).f2) ((rd_T53 x10 x12).f3) ((rd_T53 x10 x12).f4.f0) ((rd_T53 x10 x12).f4.f1) ((rd_T53 x10 x12).f4.f2) ((rd_T53 x10 x12).f5.f0) ((rd_T53 x10 x12).f5.f1) ((rd_T53 x10 x12).f6) ((rd_T53 x10 x12).f7)).bind fun t147 => (expand_Letter.l1 k x0 x12 t147 x10 x11 x12 x700 x701 x702 x703 x704 ((rd_T53 x10 x12).f0) ((rd_T53 x10 x12).f1) ((rd_T53 x10 x12).f2) ((rd_T53 x10 x12).f3) ((rd_T53 x10 x12).f4.f0) ((rd_T53 x10 x12).f4.f1) ((rd_T53 x10 x12).f4.f2) ((rd_T53 x10 x12).f5.f0) ((rd_T53 x10 x12).f5.f1) ((rd_T53 x10 x12).f6) ((rd_T53 x10 x12).f7) ((rd_T53 x10 x12).f0) ((rd_T53 x10 x12).f1) ((rd_T53 x10 x12).f2) ((rd_T53 x10 x12).f3) ((rd_T53 x10 x12).f4.f0) ((rd_T53 x10 x12).f4.f1) ((rd_T53 x10 x12).f4.f2) ((rd_T53 x10 x12).f5.f0) ((rd_T53 x10 x12).f5.f1) ((rd_T53 x10 x12).f6) ((rd_T53 x10 x12).f7))) else (none)) else (none)) else (if x700 = true then (if 0 ≤ x701 then (if x701 < (x0.length : Int) then (some ((rd_T53 x0 x701).f7)) else (none)) else (none)) else (some (⟨#[]⟩ : ByteArray)))
def expand_Letter.l1 : Nat → List (S53) → Int → Int → List (S53) → Int → Int → Bool → Int → Int → Int → Int → ByteArray → Int → Int → Int → Int → Int → Int → Int → Int → Int → ByteArray → ByteArray → Int → Int → Int → Int → Int → Int → Int → Int → Int → ByteArray → Option (ByteArray)
 | 0, _, _, _, _, _, _, _, _, _, _, _, _, _, _, _, _, _, _, _, _, _, _, _, _, _, _, _, _, _, _, _, _, _ => none
 | k + 1, x0, x4, x7, x10, x11, x12, x700, x701, x702, x703, x704, x146000, x146001, x146002, x146003, x146004, x146005, x146006, x146007, x146008, x146009, x146010, x147000, x147001, x147002, x147003, x147004, x147005, x147006, x147007, x147008, x147009, x147010 => (expand_lasting_last.f x147000 x147001 x147002 x147003 x147004 x147005 x147006 x147007 x147008 x147009 x147010).bind fun t148 => ((expand_lasting_first.f x147000 x147001 x147002 x147003 x147004 x147005 x147006 x147007 x147008 x147009 x147010).bind fun t149 => (if x7 ≤ (mn t148 (wrap64 (t149 + 8))) then (expand_Letter.j2 k x0 x4 x7 x10 x11 x12 (x146009 == 0) x700 x701 x702 x703 x704 x146000 x146001 x146002 x146003 x146004 x146005 x146006 x146007 x146008 x146009 x146010 x147000 x147001 x147002 x147003 x147004 x147005 x147006 x147007 x147008 x147009 x147010) else (expand_Letter.j2 k x0 x4 x7 x10 x11 x12 false x700 x701 x702 x703 x704 x146000 x146001 x146002 x146003 x146004 x146005 x146006 x146007 x146008 x146009 x146010 x147000 x147001 x147002 x147003 x147004 x147005 x147006 x147007 x147008 x147009 x147010)))
def expand_Letter.j2 : Nat → List (S53) → Int → Int → List (S53) → Int → Int → Bool → Bool → Int → Int → Int → Int → ByteArray → Int → Int → Int → Int → Int → Int → Int → Int → Int → ByteArray → ByteArray → Int → Int → Int → Int → Int → Int → Int → Int → Int → ByteArray → Option (ByteArray)
 | 0, _, _, _, _, _, _, _, _, _, _, _, _, _, _, _, _, _, _, _, _, _, _, _, _, _, _, _, _, _, _, _, _, _, _ => none
 | k + 1, x0, x4, x7, x10, x11, x12, x32, x700, x701, x702, x703, x704, x146000, x146001, x146002, x146003, x146004, x146005, x146006, x146007, x146008, x146009, x146010, x147000, x147001, x147002, x147003, x147004, x147005, x147006, x147007, x147008, x147009, x147010 => if x32 = true then ((expand_lasting_fire.f k x147000 x147001 x147002 x147003 x147004 x147005 x147006 x147007 x147008 x147009 x147010 x4 x7).bind fun bt150 => (if bt150.2.2.2.2 = true then (if x700 = true then ((expand_order.f k bt150.1 bt150.2.1 bt150.2.2.1 bt150.2.2.2.1 x701 x702 x703 x704).bind fun t156 => (if t156 < 0 then (expand_Letter.l0 k x0 x10 x11 (wrap64 (x12 + 1)) true bt150.1 bt150.2.1 bt150.2.2.1 bt150.2.2.2.1) else (expand_Letter.l0 k x0 x10 x11 (wrap64 (x12 + 1)) true x701 x702 x703 x704))) else (expand_Letter.l0 k x0 x10 x11 (wrap64 (x12 + 1)) true bt150.1 bt150.2.1 bt150.2.2.1 bt150.2.2.2.1)) else (expand_Letter.l1 k x0 x4 (wrap64 (x7 + 1)) x10 x11 x12 x700 x701 x702 x703 x704 x146000 x146001 x146002 x146003 x146004 x146005 x146006 x146007 x146008 x146009 x146010 x147000 x147001 x147002 x147003 x147004 x147005 x147006 x147007 x147008 x147009 x147010))) else (expand_Letter.l0 k x0 x10 x11 (wrap64 (x12 + 1)) x700 x701 x702 x703 x704)
end
def expand_Letter.f (k : Nat) (l0 : List (S53)) : Option (ByteArray) := expand_Letter.l0 k l0 l0 (l0.length : Int) 0 false 0 0 0 0
theorem expand_Letter.mono_l : ∀ k, (∀ y0 y1 y2 y3 y4 y5 y6 y7 y8, LeO (expand_Letter.l0 k y0 y1 y2 y3 y4 y5 y6 y7 y8) (expand_Letter.l0 (k + 1) y0 y1 y2 y3 y4 y5 y6 y7 y8)) ∧ (∀ y0 y1 y2 y3 y4 y5 y6 y7 y8 y9 y10 y11 y12 y13 y14 y15 y16 y17 y18 y19 y20 y21 y22 y23 y24 y25 y26 y27 y28 y29 y30 y31 y32, LeO (expand_Letter.l1 k y0 y1 y2 y3 y4 y5 y6 y7 y8 y9 y10 y11 y12 y13 y14 y15 y16 y17 y18 y19 y20 y21 y22 y23 y24 y25 y26 y27 y28 y29 y30 y31 y32) (expand_Letter.l1 (k + 1) y0 y1 y2 y3 y4 y5 y6 y7 y8 y9 y10 y11 y12 y13 y14 y15 y16 y17 y18 y19 y20 y21 y22 y23 y24 y25 y26 y27 y28 y29 y30 y31 y32)) ∧ (∀ y0 y1 y2 y3 y4 y5 y6 y7 y8 y9 y10 y11 y12 y13 y14 y15 y16 y17 y18 y19 y20 y21 y22 y23 y24 y25 y26 y27 y28 y29 y30 y31 y32 y33, LeO (expand_Letter.j2 k y0 y1 y2 y3 y4 y5 y6 y7 y8 y9 y10 y11 y12 y13 y14 y15 y16 y17 y18 y19 y20 y21 y22 y23 y24 y25 y26 y27 y28 y29 y30 y31 y32 y33) (expand_Letter.j2 (k + 1) y0 y1 y2 y3 y4 y5 y6 y7 y8 y9 y10 y11 y12 y13 y14 y15 y16 y17 y18 y19 y20 y21 y22 y23 y24 y25 y26 y27 y28 y29 y30 y31 y32 y33))
 | 0 => ⟨fun _ _ _ _ _ _ _ _ _ r h => by simp [expand_Letter.l0] at h, fun _ _ _ _ _ _ _ _ _ _ _ _ _ _ _ _ _ _ _ _ _ _ _ _ _ _ _ _ _ _ _ _ _ r h => by simp [expand_Letter.l1] at h, fun _ _ _ _ _ _ _ _ _ _ _ _ _ _ _ _ _ _ _ _ _ _ _ _ _ _ _ _ _ _ _ _ _ _ r h => by simp [expand_Letter.j2] at h⟩
 | k + 1 => by
  obtain ⟨ih0, ih1, ih2⟩ := expand_Letter.mono_l k
  refine ⟨?_, ?_, ?_⟩
  ·intro y0 y1 y2 y3 y4 y5 y6 y7 y8
   unfold expand_Letter.l0
   repeat' first
   | (with_reducible exact ih0 _ _ _ _ _ _ _ _ _)
   | (with_reducible exact ih1 _ _ _ _ _ _ _ _ _ _ _ _ _ _ _ _ _ _ _ _ _ _ _ _ _ _ _ _ _ _ _ _ _)
   | (with_reducible exact ih2 _ _ _ _ _ _ _ _ _ _ _ _ _ _ _ _ _ _ _ _ _ _ _ _ _ _ _ _ _ _ _ _ _ _)
   | (with_reducible exact expand_lasting_fire.mono _ _ _ _ _ _ _ _ _ _ _ _ _ _)
   | (with_reducible exact expand_order.mono _ _ _ _ _ _ _ _ _)
   | (with_reducible exact LeO.refl _)
   | (with_reducible exact LeO.none _)
   | (with_reducible refine LeO.ite ?_ ?_)
   | (with_reducible refine LeO.bind ?_ (fun _ => ?_))
   | exact ih0 _ _ _ _ _ _ _ _ _
   | exact ih1 _ _ _ _ _ _ _ _ _ _ _ _ _ _ _ _ _ _ _ _ _ _ _ _ _ _ _ _ _ _ _ _ _
   | exact ih2 _ _ _ _ _ _ _ _ _ _ _ _ _ _ _ _ _ _ _ _ _ _ _ _ _ _ _ _ _ _ _ _ _ _
   | exact expand_lasting_fire.mono _ _ _ _ _ _ _ _ _ _ _ _ _ _
   | exact expand_order.mono _ _ _ _ _ _ _ _ _
   | exact LeO.none _
   | refine LeO.ite ?_ ?_
   | refine LeO.bind ?_ (fun _ => ?_)
  ·intro y0 y1 y2 y3 y4 y5 y6 y7 y8 y9 y10 y11 y12 y13 y14 y15 y16 y17 y18 y19 y20 y21 y22 y23 y24 y25 y26 y27 y28 y29 y30 y31 y32
   unfold expand_Letter.l1
   repeat' first
   | (with_reducible exact ih0 _ _ _ _ _ _ _ _ _)
   | (with_reducible exact ih1 _ _ _ _ _ _ _ _ _ _ _ _ _ _ _ _ _ _ _ _ _ _ _ _ _ _ _ _ _ _ _ _ _)
   | (with_reducible exact ih2 _ _ _ _ _ _ _ _ _ _ _ _ _ _ _ _ _ _ _ _ _ _ _ _ _ _ _ _ _ _ _ _ _ _)
   | (with_reducible exact expand_lasting_fire.mono _ _ _ _ _ _ _ _ _ _ _ _ _ _)
   | (with_reducible exact expand_order.mono _ _ _ _ _ _ _ _ _)
   | (with_reducible exact LeO.refl _)
   | (with_reducible exact LeO.none _)
   | (with_reducible refine LeO.ite ?_ ?_)
   | (with_reducible refine LeO.bind ?_ (fun _ => ?_))
   | exact ih0 _ _ _ _ _ _ _ _ _
   | exact ih1 _ _ _ _ _ _ _ _ _ _ _ _ _ _ _ _ _ _ _ _ _ _ _ _ _ _ _ _ _ _ _ _ _
   | exact ih2 _ _ _ _ _ _ _ _ _ _ _ _ _ _ _ _ _ _ _ _ _ _ _ _ _ _ _ _ _ _ _ _ _ _
   | exact expand_lasting_fire.mono _ _ _ _ _ _ _ _ _ _ _ _ _ _
   | exact expand_order.mono _ _ _ _ _ _ _ _ _
   | exact LeO.none _
   | refine LeO.ite ?_ ?_
   | refine LeO.bind ?_ (fun _ => ?_)
  ·intro y0 y1 y2 y3 y4 y5 y6 y7 y8 y9 y10 y11 y12 y13 y14 y15 y16 y17 y18 y19 y20 y21 y22 y23 y24 y25 y26 y27 y28 y29 y30 y31 y32 y33
   unfold expand_Letter.j2
   repeat' first
   | (with_reducible exact ih0 _ _ _ _ _ _ _ _ _)
   | (with_reducible exact ih1 _ _ _ _ _ _ _ _ _ _ _ _ _ _ _ _ _ _ _ _ _ _ _ _ _ _ _ _ _ _ _ _ _)
   | (with_reducible exact ih2 _ _ _ _ _ _ _ _ _ _ _ _ _ _ _ _ _ _ _ _ _ _ _ _ _ _ _ _ _ _ _ _ _ _)
   | (with_reducible exact expand_lasting_fire.mono _ _ _ _ _ _ _ _ _ _ _ _ _ _)
   | (with_reducible exact expand_order.mono _ _ _ _ _ _ _ _ _)
   | (with_reducible exact LeO.refl _)
   | (with_reducible exact LeO.none _)
   | (with_reducible refine LeO.ite ?_ ?_)
   | (with_reducible refine LeO.bind ?_ (fun _ => ?_))
   | exact ih0 _ _ _ _ _ _ _ _ _
   | exact ih1 _ _ _ _ _ _ _ _ _ _ _ _ _ _ _ _ _ _ _ _ _ _ _ _ _ _ _ _ _ _ _ _ _
   | exact ih2 _ _ _ _ _ _ _ _ _ _ _ _ _ _ _ _ _ _ _ _ _ _ _ _ _ _ _ _ _ _ _ _ _ _
   | exact expand_lasting_fire.mono _ _ _ _ _ _ _ _ _ _ _ _ _ _
   | exact expand_order.mono _ _ _ _ _ _ _ _ _
   | exact LeO.none _
   | refine LeO.ite ?_ ?_
   | refine LeO.bind ?_ (fun _ => ?_)
theorem expand_Letter.mono : ∀ a0 k, LeO (expand_Letter.f k a0) (expand_Letter.f (k + 1) a0) := by
 intro a0 k
 obtain ⟨ih0, ih1, ih2⟩ := expand_Letter.mono_l k
 unfold expand_Letter.f
 repeat' first
   | (with_reducible exact ih0 _ _ _ _ _ _ _ _ _)
   | (with_reducible exact ih1 _ _ _ _ _ _ _ _ _ _ _ _ _ _ _ _ _ _ _ _ _ _ _ _ _ _ _ _ _ _ _ _ _)
   | (with_reducible exact ih2 _ _ _ _ _ _ _ _ _ _ _ _ _ _ _ _ _ _ _ _ _ _ _ _ _ _ _ _ _ _ _ _ _ _)
   | (with_reducible exact expand_lasting_fire.mono _ _ _ _ _ _ _ _ _ _ _ _ _ _)
   | (with_reducible exact expand_order.mono _ _ _ _ _ _ _ _ _)
   | (with_reducible exact LeO.refl _)
   | (with_reducible exact LeO.none _)
   | (with_reducible refine LeO.ite ?_ ?_)
   | (with_reducible refine LeO.bind ?_ (fun _ => ?_))
   | exact ih0 _ _ _ _ _ _ _ _ _
   | exact ih1 _ _ _ _ _ _ _ _ _ _ _ _ _ _ _ _ _ _ _ _ _ _ _ _ _ _ _ _ _ _ _ _ _
   | exact ih2 _ _ _ _ _ _ _ _ _ _ _ _ _ _ _ _ _ _ _ _ _ _ _ _ _ _ _ _ _ _ _ _ _ _
   | exact expand_lasting_fire.mono _ _ _ _ _ _ _ _ _ _ _ _ _ _
   | exact expand_order.mono _ _ _ _ _ _ _ _ _
   | exact LeO.none _
   | refine LeO.ite ?_ ?_
   | refine LeO.bind ?_ (fun _ => ?_)
def expand_Letter.T7 : Bool × List (List Nat × List Nat) := (true, [([], []), ([], []), ([1], [1]), ([], []), ([3, 2], [3]), ([4], [4]), ([2, 5], [2, 5]), ([0, 6], [0, 6]), ([7, 4], [7]), ([8], [8]), ([9, 8], [8, 9]), ([10, 8], [8, 10]), ([8, 11], [8, 11])])
def expand_Letter.B7 : List Nat := [0, 0, 2, 0, 14, 30, 62, 127, 255, 511, 1023, 2047, 4095]
theorem expand_Letter.tab7 : rtab .any (opsOf Try.f36 7) = expand_Letter.T7 := by kernel_rfl
theorem expand_Letter.bits7 : waitsOk expand_Letter.T7.2 expand_Letter.B7 = true := by kernel_rfl
def expand_Letter.T11 : Bool × List (List Nat × List Nat) := (true, [([], []), ([0], [0]), ([1], [1]), ([2], [2]), ([2], [2]), ([4, 2], [2, 4]), ([5, 2], [2, 5]), ([3, 6, 2, 2], [2, 3, 6]), ([7, 2], [2, 7]), ([2, 8], [2, 8])])
def expand_Letter.B11 : List Nat := [0, 1, 3, 7, 7, 23, 55, 127, 255, 511]
theorem expand_Letter.tab11 : rtab .any (opsOf Try.f36 11) = expand_Letter.T11 := by kernel_rfl
theorem expand_Letter.bits11 : waitsOk expand_Letter.T11.2 expand_Letter.B11 = true := by kernel_rfl
set_option maxHeartbeats 8000000 in
set_option maxRecDepth 100000 in
theorem expand_Letter.calls (k : Nat) (A0 : Option Addr) (c0 : Nat) (l0 : List (S53)) (r : ByteArray) (w : World) (hr0 : Kd.C k53 w A0 l0.length l0) (hc0 : l0.length ≤ c0) (h : expand_Letter.f k l0 = some r) :
  Calls Try.prog 36 #[.slice A0 l0.length c0] w fun e w' => e = .returned (.string r) ∧ Below w.heap.size w w' := by
 have hu53 := Try.underlying53
 have hu96 := Try.underlying96
 have hu84 := Try.underlying84
 have HR0 := aM hr0
 have HC0 := aM hc0
 clear hr0 hc0
 have HB := aM (Below.refl w.heap.size w)
 have H : (expand_Letter.l0 k l0 l0 (l0.length : Int) 0 false 0 0 0 0) = some r := h
 clear h
 have H' := aM H
 clear H
 go_enter Try.func36, Try.ntmps36
 go_wp2
 go_loopg [3, 12] k (fun kq v3 v12 w' => ∃ (x12_1 : Int) (x700_1 : Bool) (x701_1 : Int) (x702_1 : Int) (x703_1 : Int) (x704_1 : Int) (go3_1 : Nat), v3 = optP x700_1 go3_1 ∧ v12 = .int .i64 x12_1 ∧ Aside0 (x700_1 = true → w'.heap[go3_1]? = some (.cells #[.int .i64 x701_1, .int .i64 x702_1, .int .i64 x703_1, .int .i64 x704_1] 84 (0, 0)) ∧ w.heap.size ≤ go3_1) ∧ Aside0 (expand_Letter.l0 kq l0 l0 (l0.length : Int) x12_1 x700_1 x701_1 x702_1 x703_1 x704_1 = some r) ∧ Aside0 (kq ≤ k) ∧ Aside0 (Below w.heap.size w w'))
 case atStart => exact ⟨(0), (false), (0), (0), (0), (0), (0), rfl, (by first | rfl | (simp; done) | (simp [*]; done)), ⟨fun h_ => by cases h_⟩, H', ⟨Nat.le_refl _⟩, ⟨by repeat (first | (with_reducible first | exact HB.out | apply lA | apply lN | apply lD) | exact HB.out)⟩⟩
 case round =>
  clear H'
  obtain ⟨x12_1, x700_1, x701_1, x702_1, x703_1, x704_1, go3_1, rfl, rfl, OB142, HA, HK1, HB⟩ := hrel
  cases gk with
  | zero => exact absurd HA.out (by simp [expand_Letter.l0])
  | succ k1 =>
   have H := HA.out
   clear HA
   simp only [expand_Letter.l0] at H
   by_cases c2 : x12_1 < (l0.length : Int)
   ·rw [if_pos c2] at H
    have c2b0 : decide (x12_1 < (l0.length : Int)) = true := decide_eq_true c2
    clear c2
    by_cases c3 : 0 ≤ x12_1
    ·rw [if_pos c3] at H
     have c3b0 : decide (0 ≤ x12_1) = true := decide_eq_true c3
     clear c3
     by_cases c4 : x12_1 < (l0.length : Int)
     ·rw [if_pos c4] at H
      have c4b0 : decide (x12_1 < (l0.length : Int)) = true := decide_eq_true c4
      clear c4
      replace H := Option.bind_eq_some_iff.mp H
      obtain ⟨t147, A50, H⟩ := H
      replace H : (expand_Letter.l1 k1 l0 x12_1 t147 l0 (l0.length : Int) x12_1 x700_1 x701_1 x702_1 x703_1 x704_1 ((rd_T53 l0 x12_1).f0) ((rd_T53 l0 x12_1).f1) ((rd_T53 l0 x12_1).f2) ((rd_T53 l0 x12_1).f3) ((rd_T53 l0 x12_1).f4.f0) ((rd_T53 l0 x12_1).f4.f1) ((rd_T53 l0 x12_1).f4.f2) ((rd_T53 l0 x12_1).f5.f0) ((rd_T53 l0 x12_1).f5.f1) ((rd_T53 l0 x12_1).f6) ((rd_T53 l0 x12_1).f7) ((rd_T53 l0 x12_1).f0) ((rd_T53 l0 x12_1).f1) ((rd_T53 l0 x12_1).f2) ((rd_T53 l0 x12_1).f3) ((rd_T53 l0 x12_1).f4.f0) ((rd_T53 l0 x12_1).f4.f1) ((rd_T53 l0 x12_1).f4.f2) ((rd_T53 l0 x12_1).f5.f0) ((rd_T53 l0 x12_1).f5.f1) ((rd_T53 l0 x12_1).f6) ((rd_T53 l0 x12_1).f7)) = some r := H
      have A5 := aM A50
      clear A50
      have H' := aM H
      clear H
      have p144 : 0 ≤ (x12_1 : Int) := of_decide_eq_true (by assumption)
      have q144 : x12_1 < (l0.length : Int) := of_decide_eq_true (by assumption)
      obtain ⟨ad144, e144, hx144_0, hx144_1, hx144_2, hx144_3, hx144_4, hx144_5, hx144_6, hx144_7, hx144_8, hx144_9, hx144_10⟩ := at_T53 HR0.out x12_1 p144 q144
      cases e144
      replace hx144_0 := (HB.out.cell (wB w _ hx144_0)).trans hx144_0
      replace hx144_1 := (HB.out.cell (wB w _ hx144_1)).trans hx144_1
      replace hx144_2 := (HB.out.cell (wB w _ hx144_2)).trans hx144_2
      replace hx144_3 := (HB.out.cell (wB w _ hx144_3)).trans hx144_3
      replace hx144_4 := (HB.out.cell (wB w _ hx144_4)).trans hx144_4
      replace hx144_5 := (HB.out.cell (wB w _ hx144_5)).trans hx144_5
      replace hx144_6 := (HB.out.cell (wB w _ hx144_6)).trans hx144_6
      replace hx144_7 := (HB.out.cell (wB w _ hx144_7)).trans hx144_7
      replace hx144_8 := (HB.out.cell (wB w _ hx144_8)).trans hx144_8
      replace hx144_9 := (HB.out.cell (wB w _ hx144_9)).trans hx144_9
      replace hx144_10 := (HB.out.cell (wB w _ hx144_10)).trans hx144_10
      replace p144 := eq_true p144
      replace q144 := eq_true q144
      go_wp2_with (first | ((with_reducible refine gate_dst (N := 5) rfl ?_); refine box_event ?hg (N := 5) ?hd (cs := #[.string (⟨#[]⟩ : ByteArray), .int .i64 0, .int .i64 0, .int .i64 0, .int .i64 0, .int .i64 0, .int .i64 0, .int .i64 0, .int .i64 0, .int .i64 0, .string (⟨#[]⟩ : ByteArray)]) (t := 53) ?hr ?_; (case hd => rfl); (case hg => rfl); (case hr => first | (go_simp; done) | (go_simp; rfl)); intro gb145 hg w6 hbox hb; have n0_ := aM (show (x700_1 = true → _ ∧ _) from fun h_ => ⟨blk_below (o := .cells #[.int .i64 x701_1, .int .i64 x702_1, .int .i64 x703_1, .int .i64 x704_1] 84 (0, 0)) (by (with_reducible repeat first | apply bN | apply bD | apply bA); exact (OB142.out h_).1) hb, (OB142.out h_).2⟩); have n1_ := aM (below_step (by repeat (first | (with_reducible first | exact HB.out | apply lA | apply lN | apply lD) | exact HB.out)) hb); have n2_ := aM (hbox); have n3_ := aM ((by rw [hg]; exact (below_size (by repeat (first | (with_reducible first | exact HB.out | apply lA | apply lN | apply lD) | exact HB.out))) : w.heap.size ≤ gb145)); have n4_ := aM ((by rw [hg]; exact (below_size (by repeat (first | (with_reducible first | exact HB.out | apply lA | apply lN | apply lD) | exact HB.out))) : w.heap.size ≤ gb145)); have n5_ := aM (show (x700_1 = true → go3_1 ≠ gb145) from fun h_ => by rw [hg]; exact Nat.ne_of_lt (blk_lt (o := .cells #[.int .i64 x701_1, .int .i64 x702_1, .int .i64 x703_1, .int .i64 x704_1] 84 (0, 0)) (by (with_reducible repeat first | apply bN | apply bD | apply bA); exact (OB142.out h_).1))); clear OB142; clear HB; have OB142 := n0_; have HB := n1_; have BK145 := n2_; have GW145 := n3_; have GE145 := n4_; have NO142_145 := n5_; clear n0_ n1_ n2_ n3_ n4_ n5_; clear hb hbox hg; obtain ⟨hcz7_0, hcz7_1, hcz7_2, hcz7_3, hcz7_4, hcz7_5, hcz7_6, hcz7_7, hcz7_8, hcz7_9, hcz7_10⟩ := blkC11 BK145.out; obtain ⟨hfz7_0, hfz7_1, hfz7_2, hfz7_3, hfz7_4, hfz7_5, hfz7_6, hfz7_7, hfz7_8, hfz7_9, hfz7_10⟩ := blkF11 BK145.out) | ((with_reducible refine gate_dst (N := 6) rfl ?_); refine box_event ?hg (N := 6) ?hd (cs := #[.string (⟨#[]⟩ : ByteArray), .int .i64 0, .int .i64 0, .int .i64 0, .int .i64 0, .int .i64 0, .int .i64 0, .int .i64 0, .int .i64 0, .int .i64 0, .string (⟨#[]⟩ : ByteArray)]) (t := 96) ?hr ?_; (case hd => rfl); (case hg => rfl); (case hr => first | (go_simp; done) | (go_simp; rfl)); intro gb146 hg w8 hbox hb; have n0_ := aM (show (x700_1 = true → _ ∧ _) from fun h_ => ⟨blk_below (o := .cells #[.int .i64 x701_1, .int .i64 x702_1, .int .i64 x703_1, .int .i64 x704_1] 84 (0, 0)) (by (with_reducible repeat first | apply bN | apply bD | apply bA); refine blk_far ?_ (NO142_145.out h_) _; (with_reducible repeat first | apply bN | apply bD | apply bA); refine blk_far ?_ (NO142_145.out h_) _; (with_reducible repeat first | apply bN | apply bD | apply bA); refine blk_far ?_ (NO142_145.out h_) _; (with_reducible repeat first | apply bN | apply bD | apply bA); refine blk_far ?_ (NO142_145.out h_) _; (with_reducible repeat first | apply bN | apply bD | apply bA); refine blk_far ?_ (NO142_145.out h_) _; (with_reducible repeat first | apply bN | apply bD | apply bA); refine blk_far ?_ (NO142_145.out h_) _; (with_reducible repeat first | apply bN | apply bD | apply bA); refine blk_far ?_ (NO142_145.out h_) _; (with_reducible repeat first | apply bN | apply bD | apply bA); refine blk_far ?_ (NO142_145.out h_) _; (with_reducible repeat first | apply bN | apply bD | apply bA); refine blk_far ?_ (NO142_145.out h_) _; (with_reducible repeat first | apply bN | apply bD | apply bA); refine blk_far ?_ (NO142_145.out h_) _; (with_reducible repeat first | apply bN | apply bD | apply bA); refine blk_far ?_ (NO142_145.out h_) _; (with_reducible repeat first | apply bN | apply bD | apply bA); exact (OB142.out h_).1) hb, (OB142.out h_).2⟩); have n1_ := aM (blk_below (g := gb145) (o := .cells #[.string ((rd_T53 l0 x12_1).f0), .int .i64 ((rd_T53 l0 x12_1).f1), .int .i64 ((rd_T53 l0 x12_1).f2), .int .i64 ((rd_T53 l0 x12_1).f3), .int .i64 ((rd_T53 l0 x12_1).f4.f0), .int .i64 ((rd_T53 l0 x12_1).f4.f1), .int .i64 ((rd_T53 l0 x12_1).f4.f2), .int .i64 ((rd_T53 l0 x12_1).f5.f0), .int .i64 ((rd_T53 l0 x12_1).f5.f1), .int .i64 ((rd_T53 l0 x12_1).f6), .string ((rd_T53 l0 x12_1).f7)] 53 (0, 0)) (by (with_reducible repeat first | apply bN | apply bD | apply bA); refine blk_put (cs := #[.string ((rd_T53 l0 x12_1).f0), .int .i64 ((rd_T53 l0 x12_1).f1), .int .i64 ((rd_T53 l0 x12_1).f2), .int .i64 ((rd_T53 l0 x12_1).f3), .int .i64 ((rd_T53 l0 x12_1).f4.f0), .int .i64 ((rd_T53 l0 x12_1).f4.f1), .int .i64 ((rd_T53 l0 x12_1).f4.f2), .int .i64 ((rd_T53 l0 x12_1).f5.f0), .int .i64 ((rd_T53 l0 x12_1).f5.f1), .int .i64 ((rd_T53 l0 x12_1).f6), .string (⟨#[]⟩ : ByteArray)]) ?_ 10 _ rfl; (with_reducible repeat first | apply bN | apply bD | apply bA); refine blk_put (cs := #[.string ((rd_T53 l0 x12_1).f0), .int .i64 ((rd_T53 l0 x12_1).f1), .int .i64 ((rd_T53 l0 x12_1).f2), .int .i64 ((rd_T53 l0 x12_1).f3), .int .i64 ((rd_T53 l0 x12_1).f4.f0), .int .i64 ((rd_T53 l0 x12_1).f4.f1), .int .i64 ((rd_T53 l0 x12_1).f4.f2), .int .i64 ((rd_T53 l0 x12_1).f5.f0), .int .i64 ((rd_T53 l0 x12_1).f5.f1), .int .i64 0, .string (⟨#[]⟩ : ByteArray)]) ?_ 9 _ rfl; (with_reducible repeat first | apply bN | apply bD | apply bA); refine blk_put (cs := #[.string ((rd_T53 l0 x12_1).f0), .int .i64 ((rd_T53 l0 x12_1).f1), .int .i64 ((rd_T53 l0 x12_1).f2), .int .i64 ((rd_T53 l0 x12_1).f3), .int .i64 ((rd_T53 l0 x12_1).f4.f0), .int .i64 ((rd_T53 l0 x12_1).f4.f1), .int .i64 ((rd_T53 l0 x12_1).f4.f2), .int .i64 ((rd_T53 l0 x12_1).f5.f0), .int .i64 0, .int .i64 0, .string (⟨#[]⟩ : ByteArray)]) ?_ 8 _ rfl; (with_reducible repeat first | apply bN | apply bD | apply bA); refine blk_put (cs := #[.string ((rd_T53 l0 x12_1).f0), .int .i64 ((rd_T53 l0 x12_1).f1), .int .i64 ((rd_T53 l0 x12_1).f2), .int .i64 ((rd_T53 l0 x12_1).f3), .int .i64 ((rd_T53 l0 x12_1).f4.f0), .int .i64 ((rd_T53 l0 x12_1).f4.f1), .int .i64 ((rd_T53 l0 x12_1).f4.f2), .int .i64 0, .int .i64 0, .int .i64 0, .string (⟨#[]⟩ : ByteArray)]) ?_ 7 _ rfl; (with_reducible repeat first | apply bN | apply bD | apply bA); refine blk_put (cs := #[.string ((rd_T53 l0 x12_1).f0), .int .i64 ((rd_T53 l0 x12_1).f1), .int .i64 ((rd_T53 l0 x12_1).f2), .int .i64 ((rd_T53 l0 x12_1).f3), .int .i64 ((rd_T53 l0 x12_1).f4.f0), .int .i64 ((rd_T53 l0 x12_1).f4.f1), .int .i64 0, .int .i64 0, .int .i64 0, .int .i64 0, .string (⟨#[]⟩ : ByteArray)]) ?_ 6 _ rfl; (with_reducible repeat first | apply bN | apply bD | apply bA); refine blk_put (cs := #[.string ((rd_T53 l0 x12_1).f0), .int .i64 ((rd_T53 l0 x12_1).f1), .int .i64 ((rd_T53 l0 x12_1).f2), .int .i64 ((rd_T53 l0 x12_1).f3), .int .i64 ((rd_T53 l0 x12_1).f4.f0), .int .i64 0, .int .i64 0, .int .i64 0, .int .i64 0, .int .i64 0, .string (⟨#[]⟩ : ByteArray)]) ?_ 5 _ rfl; (with_reducible repeat first | apply bN | apply bD | apply bA); refine blk_put (cs := #[.string ((rd_T53 l0 x12_1).f0), .int .i64 ((rd_T53 l0 x12_1).f1), .int .i64 ((rd_T53 l0 x12_1).f2), .int .i64 ((rd_T53 l0 x12_1).f3), .int .i64 0, .int .i64 0, .int .i64 0, .int .i64 0, .int .i64 0, .int .i64 0, .string (⟨#[]⟩ : ByteArray)]) ?_ 4 _ rfl; (with_reducible repeat first | apply bN | apply bD | apply bA); refine blk_put (cs := #[.string ((rd_T53 l0 x12_1).f0), .int .i64 ((rd_T53 l0 x12_1).f1), .int .i64 ((rd_T53 l0 x12_1).f2), .int .i64 0, .int .i64 0, .int .i64 0, .int .i64 0, .int .i64 0, .int .i64 0, .int .i64 0, .string (⟨#[]⟩ : ByteArray)]) ?_ 3 _ rfl; (with_reducible repeat first | apply bN | apply bD | apply bA); refine blk_put (cs := #[.string ((rd_T53 l0 x12_1).f0), .int .i64 ((rd_T53 l0 x12_1).f1), .int .i64 0, .int .i64 0, .int .i64 0, .int .i64 0, .int .i64 0, .int .i64 0, .int .i64 0, .int .i64 0, .string (⟨#[]⟩ : ByteArray)]) ?_ 2 _ rfl; (with_reducible repeat first | apply bN | apply bD | apply bA); refine blk_put (cs := #[.string ((rd_T53 l0 x12_1).f0), .int .i64 0, .int .i64 0, .int .i64 0, .int .i64 0, .int .i64 0, .int .i64 0, .int .i64 0, .int .i64 0, .int .i64 0, .string (⟨#[]⟩ : ByteArray)]) ?_ 1 _ rfl; (with_reducible repeat first | apply bN | apply bD | apply bA); refine blk_put (cs := #[.string (⟨#[]⟩ : ByteArray), .int .i64 0, .int .i64 0, .int .i64 0, .int .i64 0, .int .i64 0, .int .i64 0, .int .i64 0, .int .i64 0, .int .i64 0, .string (⟨#[]⟩ : ByteArray)]) ?_ 0 _ rfl; (with_reducible repeat first | apply bN | apply bD | apply bA); exact BK145.out) hb); have n2_ := aM (below_step (by repeat (first | (with_reducible first | exact HB.out | apply lA | apply lN | apply lD | refine lS ?_ GE145.out) | exact HB.out)) hb); have n3_ := aM (hbox); have n4_ := aM ((by rw [hg]; exact (below_size (by repeat (first | (with_reducible first | exact HB.out | apply lA | apply lN | apply lD | refine lS ?_ GE145.out) | exact HB.out))) : w.heap.size ≤ gb146)); have n5_ := aM ((by rw [hg]; exact (below_size (by repeat (first | (with_reducible first | exact HB.out | apply lA | apply lN | apply lD | refine lS ?_ GE145.out) | exact HB.out))) : w.heap.size ≤ gb146)); have n6_ := aM ((by rw [hg]; exact Nat.ne_of_lt (blk_lt (g := gb145) (o := .cells #[.string ((rd_T53 l0 x12_1).f0), .int .i64 ((rd_T53 l0 x12_1).f1), .int .i64 ((rd_T53 l0 x12_1).f2), .int .i64 ((rd_T53 l0 x12_1).f3), .int .i64 ((rd_T53 l0 x12_1).f4.f0), .int .i64 ((rd_T53 l0 x12_1).f4.f1), .int .i64 ((rd_T53 l0 x12_1).f4.f2), .int .i64 ((rd_T53 l0 x12_1).f5.f0), .int .i64 ((rd_T53 l0 x12_1).f5.f1), .int .i64 ((rd_T53 l0 x12_1).f6), .string ((rd_T53 l0 x12_1).f7)] 53 (0, 0)) (by (with_reducible repeat first | apply bN | apply bD | apply bA); refine blk_put (cs := #[.string ((rd_T53 l0 x12_1).f0), .int .i64 ((rd_T53 l0 x12_1).f1), .int .i64 ((rd_T53 l0 x12_1).f2), .int .i64 ((rd_T53 l0 x12_1).f3), .int .i64 ((rd_T53 l0 x12_1).f4.f0), .int .i64 ((rd_T53 l0 x12_1).f4.f1), .int .i64 ((rd_T53 l0 x12_1).f4.f2), .int .i64 ((rd_T53 l0 x12_1).f5.f0), .int .i64 ((rd_T53 l0 x12_1).f5.f1), .int .i64 ((rd_T53 l0 x12_1).f6), .string (⟨#[]⟩ : ByteArray)]) ?_ 10 _ rfl; (with_reducible repeat first | apply bN | apply bD | apply bA); refine blk_put (cs := #[.string ((rd_T53 l0 x12_1).f0), .int .i64 ((rd_T53 l0 x12_1).f1), .int .i64 ((rd_T53 l0 x12_1).f2), .int .i64 ((rd_T53 l0 x12_1).f3), .int .i64 ((rd_T53 l0 x12_1).f4.f0), .int .i64 ((rd_T53 l0 x12_1).f4.f1), .int .i64 ((rd_T53 l0 x12_1).f4.f2), .int .i64 ((rd_T53 l0 x12_1).f5.f0), .int .i64 ((rd_T53 l0 x12_1).f5.f1), .int .i64 0, .string (⟨#[]⟩ : ByteArray)]) ?_ 9 _ rfl; (with_reducible repeat first | apply bN | apply bD | apply bA); refine blk_put (cs := #[.string ((rd_T53 l0 x12_1).f0), .int .i64 ((rd_T53 l0 x12_1).f1), .int .i64 ((rd_T53 l0 x12_1).f2), .int .i64 ((rd_T53 l0 x12_1).f3), .int .i64 ((rd_T53 l0 x12_1).f4.f0), .int .i64 ((rd_T53 l0 x12_1).f4.f1), .int .i64 ((rd_T53 l0 x12_1).f4.f2), .int .i64 ((rd_T53 l0 x12_1).f5.f0), .int .i64 0, .int .i64 0, .string (⟨#[]⟩ : ByteArray)]) ?_ 8 _ rfl; (with_reducible repeat first | apply bN | apply bD | apply bA); refine blk_put (cs := #[.string ((rd_T53 l0 x12_1).f0), .int .i64 ((rd_T53 l0 x12_1).f1), .int .i64 ((rd_T53 l0 x12_1).f2), .int .i64 ((rd_T53 l0 x12_1).f3), .int .i64 ((rd_T53 l0 x12_1).f4.f0), .int .i64 ((rd_T53 l0 x12_1).f4.f1), .int .i64 ((rd_T53 l0 x12_1).f4.f2), .int .i64 0, .int .i64 0, .int .i64 0, .string (⟨#[]⟩ : ByteArray)]) ?_ 7 _ rfl; (with_reducible repeat first | apply bN | apply bD | apply bA); refine blk_put (cs := #[.string ((rd_T53 l0 x12_1).f0), .int .i64 ((rd_T53 l0 x12_1).f1), .int .i64 ((rd_T53 l0 x12_1).f2), .int .i64 ((rd_T53 l0 x12_1).f3), .int .i64 ((rd_T53 l0 x12_1).f4.f0), .int .i64 ((rd_T53 l0 x12_1).f4.f1), .int .i64 0, .int .i64 0, .int .i64 0, .int .i64 0, .string (⟨#[]⟩ : ByteArray)]) ?_ 6 _ rfl; (with_reducible repeat first | apply bN | apply bD | apply bA); refine blk_put (cs := #[.string ((rd_T53 l0 x12_1).f0), .int .i64 ((rd_T53 l0 x12_1).f1), .int .i64 ((rd_T53 l0 x12_1).f2), .int .i64 ((rd_T53 l0 x12_1).f3), .int .i64 ((rd_T53 l0 x12_1).f4.f0), .int .i64 0, .int .i64 0, .int .i64 0, .int .i64 0, .int .i64 0, .string (⟨#[]⟩ : ByteArray)]) ?_ 5 _ rfl; (with_reducible repeat first | apply bN | apply bD | apply bA); refine blk_put (cs := #[.string ((rd_T53 l0 x12_1).f0), .int .i64 ((rd_T53 l0 x12_1).f1), .int .i64 ((rd_T53 l0 x12_1).f2), .int .i64 ((rd_T53 l0 x12_1).f3), .int .i64 0, .int .i64 0, .int .i64 0, .int .i64 0, .int .i64 0, .int .i64 0, .string (⟨#[]⟩ : ByteArray)]) ?_ 4 _ rfl; (with_reducible repeat first | apply bN | apply bD | apply bA); refine blk_put (cs := #[.string ((rd_T53 l0 x12_1).f0), .int .i64 ((rd_T53 l0 x12_1).f1), .int .i64 ((rd_T53 l0 x12_1).f2), .int .i64 0, .int .i64 0, .int .i64 0, .int .i64 0, .int .i64 0, .int .i64 0, .int .i64 0, .string (⟨#[]⟩ : ByteArray)]) ?_ 3 _ rfl; (with_reducible repeat first | apply bN | apply bD | apply bA); refine blk_put (cs := #[.string ((rd_T53 l0 x12_1).f0), .int .i64 ((rd_T53 l0 x12_1).f1), .int .i64 0, .int .i64 0, .int .i64 0, .int .i64 0, .int .i64 0, .int .i64 0, .int .i64 0, .int .i64 0, .string (⟨#[]⟩ : ByteArray)]) ?_ 2 _ rfl; (with_reducible repeat first | apply bN | apply bD | apply bA); refine blk_put (cs := #[.string ((rd_T53 l0 x12_1).f0), .int .i64 0, .int .i64 0, .int .i64 0, .int .i64 0, .int .i64 0, .int .i64 0, .int .i64 0, .int .i64 0, .int .i64 0, .string (⟨#[]⟩ : ByteArray)]) ?_ 1 _ rfl; (with_reducible repeat first | apply bN | apply bD | apply bA); refine blk_put (cs := #[.string (⟨#[]⟩ : ByteArray), .int .i64 0, .int .i64 0, .int .i64 0, .int .i64 0, .int .i64 0, .int .i64 0, .int .i64 0, .int .i64 0, .int .i64 0, .string (⟨#[]⟩ : ByteArray)]) ?_ 0 _ rfl; (with_reducible repeat first | apply bN | apply bD | apply bA); exact BK145.out)) : gb145 ≠ gb146)); have n7_ := aM ((by rw [hg]; exact Nat.ne_of_gt (blk_lt (g := gb145) (o := .cells #[.string ((rd_T53 l0 x12_1).f0), .int .i64 ((rd_T53 l0 x12_1).f1), .int .i64 ((rd_T53 l0 x12_1).f2), .int .i64 ((rd_T53 l0 x12_1).f3), .int .i64 ((rd_T53 l0 x12_1).f4.f0), .int .i64 ((rd_T53 l0 x12_1).f4.f1), .int .i64 ((rd_T53 l0 x12_1).f4.f2), .int .i64 ((rd_T53 l0 x12_1).f5.f0), .int .i64 ((rd_T53 l0 x12_1).f5.f1), .int .i64 ((rd_T53 l0 x12_1).f6), .string ((rd_T53 l0 x12_1).f7)] 53 (0, 0)) (by (with_reducible repeat first | apply bN | apply bD | apply bA); refine blk_put (cs := #[.string ((rd_T53 l0 x12_1).f0), .int .i64 ((rd_T53 l0 x12_1).f1), .int .i64 ((rd_T53 l0 x12_1).f2), .int .i64 ((rd_T53 l0 x12_1).f3), .int .i64 ((rd_T53 l0 x12_1).f4.f0), .int .i64 ((rd_T53 l0 x12_1).f4.f1), .int .i64 ((rd_T53 l0 x12_1).f4.f2), .int .i64 ((rd_T53 l0 x12_1).f5.f0), .int .i64 ((rd_T53 l0 x12_1).f5.f1), .int .i64 ((rd_T53 l0 x12_1).f6), .string (⟨#[]⟩ : ByteArray)]) ?_ 10 _ rfl; (with_reducible repeat first | apply bN | apply bD | apply bA); refine blk_put (cs := #[.string ((rd_T53 l0 x12_1).f0), .int .i64 ((rd_T53 l0 x12_1).f1), .int .i64 ((rd_T53 l0 x12_1).f2), .int .i64 ((rd_T53 l0 x12_1).f3), .int .i64 ((rd_T53 l0 x12_1).f4.f0), .int .i64 ((rd_T53 l0 x12_1).f4.f1), .int .i64 ((rd_T53 l0 x12_1).f4.f2), .int .i64 ((rd_T53 l0 x12_1).f5.f0), .int .i64 ((rd_T53 l0 x12_1).f5.f1), .int .i64 0, .string (⟨#[]⟩ : ByteArray)]) ?_ 9 _ rfl; (with_reducible repeat first | apply bN | apply bD | apply bA); refine blk_put (cs := #[.string ((rd_T53 l0 x12_1).f0), .int .i64 ((rd_T53 l0 x12_1).f1), .int .i64 ((rd_T53 l0 x12_1).f2), .int .i64 ((rd_T53 l0 x12_1).f3), .int .i64 ((rd_T53 l0 x12_1).f4.f0), .int .i64 ((rd_T53 l0 x12_1).f4.f1), .int .i64 ((rd_T53 l0 x12_1).f4.f2), .int .i64 ((rd_T53 l0 x12_1).f5.f0), .int .i64 0, .int .i64 0, .string (⟨#[]⟩ : ByteArray)]) ?_ 8 _ rfl; (with_reducible repeat first | apply bN | apply bD | apply bA); refine blk_put (cs := #[.string ((rd_T53 l0 x12_1).f0), .int .i64 ((rd_T53 l0 x12_1).f1), .int .i64 ((rd_T53 l0 x12_1).f2), .int .i64 ((rd_T53 l0 x12_1).f3), .int .i64 ((rd_T53 l0 x12_1).f4.f0), .int .i64 ((rd_T53 l0 x12_1).f4.f1), .int .i64 ((rd_T53 l0 x12_1).f4.f2), .int .i64 0, .int .i64 0, .int .i64 0, .string (⟨#[]⟩ : ByteArray)]) ?_ 7 _ rfl; (with_reducible repeat first | apply bN | apply bD | apply bA); refine blk_put (cs := #[.string ((rd_T53 l0 x12_1).f0), .int .i64 ((rd_T53 l0 x12_1).f1), .int .i64 ((rd_T53 l0 x12_1).f2), .int .i64 ((rd_T53 l0 x12_1).f3), .int .i64 ((rd_T53 l0 x12_1).f4.f0), .int .i64 ((rd_T53 l0 x12_1).f4.f1), .int .i64 0, .int .i64 0, .int .i64 0, .int .i64 0, .string (⟨#[]⟩ : ByteArray)]) ?_ 6 _ rfl; (with_reducible repeat first | apply bN | apply bD | apply bA); refine blk_put (cs := #[.string ((rd_T53 l0 x12_1).f0), .int .i64 ((rd_T53 l0 x12_1).f1), .int .i64 ((rd_T53 l0 x12_1).f2), .int .i64 ((rd_T53 l0 x12_1).f3), .int .i64 ((rd_T53 l0 x12_1).f4.f0), .int .i64 0, .int .i64 0, .int .i64 0, .int .i64 0, .int .i64 0, .string (⟨#[]⟩ : ByteArray)]) ?_ 5 _ rfl; (with_reducible repeat first | apply bN | apply bD | apply bA); refine blk_put (cs := #[.string ((rd_T53 l0 x12_1).f0), .int .i64 ((rd_T53 l0 x12_1).f1), .int .i64 ((rd_T53 l0 x12_1).f2), .int .i64 ((rd_T53 l0 x12_1).f3), .int .i64 0, .int .i64 0, .int .i64 0, .int .i64 0, .int .i64 0, .int .i64 0, .string (⟨#[]⟩ : ByteArray)]) ?_ 4 _ rfl; (with_reducible repeat first | apply bN | apply bD | apply bA); refine blk_put (cs := #[.string ((rd_T53 l0 x12_1).f0), .int .i64 ((rd_T53 l0 x12_1).f1), .int .i64 ((rd_T53 l0 x12_1).f2), .int .i64 0, .int .i64 0, .int .i64 0, .int .i64 0, .int .i64 0, .int .i64 0, .int .i64 0, .string (⟨#[]⟩ : ByteArray)]) ?_ 3 _ rfl; (with_reducible repeat first | apply bN | apply bD | apply bA); refine blk_put (cs := #[.string ((rd_T53 l0 x12_1).f0), .int .i64 ((rd_T53 l0 x12_1).f1), .int .i64 0, .int .i64 0, .int .i64 0, .int .i64 0, .int .i64 0, .int .i64 0, .int .i64 0, .int .i64 0, .string (⟨#[]⟩ : ByteArray)]) ?_ 2 _ rfl; (with_reducible repeat first | apply bN | apply bD | apply bA); refine blk_put (cs := #[.string ((rd_T53 l0 x12_1).f0), .int .i64 0, .int .i64 0, .int .i64 0, .int .i64 0, .int .i64 0, .int .i64 0, .int .i64 0, .int .i64 0, .int .i64 0, .string (⟨#[]⟩ : ByteArray)]) ?_ 1 _ rfl; (with_reducible repeat first | apply bN | apply bD | apply bA); refine blk_put (cs := #[.string (⟨#[]⟩ : ByteArray), .int .i64 0, .int .i64 0, .int .i64 0, .int .i64 0, .int .i64 0, .int .i64 0, .int .i64 0, .int .i64 0, .int .i64 0, .string (⟨#[]⟩ : ByteArray)]) ?_ 0 _ rfl; (with_reducible repeat first | apply bN | apply bD | apply bA); exact BK145.out)) : gb146 ≠ gb145)); have n8_ := aM (show (x700_1 = true → go3_1 ≠ gb146) from fun h_ => by rw [hg]; exact Nat.ne_of_lt (blk_lt (o := .cells #[.int .i64 x701_1, .int .i64 x702_1, .int .i64 x703_1, .int .i64 x704_1] 84 (0, 0)) (by (with_reducible repeat first | apply bN | apply bD | apply bA); refine blk_far ?_ (NO142_145.out h_) _; (with_reducible repeat first | apply bN | apply bD | apply bA); refine blk_far ?_ (NO142_145.out h_) _; (with_reducible repeat first | apply bN | apply bD | apply bA); refine blk_far ?_ (NO142_145.out h_) _; (with_reducible repeat first | apply bN | apply bD | apply bA); refine blk_far ?_ (NO142_145.out h_) _; (with_reducible repeat first | apply bN | apply bD | apply bA); refine blk_far ?_ (NO142_145.out h_) _; (with_reducible repeat first | apply bN | apply bD | apply bA); refine blk_far ?_ (NO142_145.out h_) _; (with_reducible repeat first | apply bN | apply bD | apply bA); refine blk_far ?_ (NO142_145.out h_) _; (with_reducible repeat first | apply bN | apply bD | apply bA); refine blk_far ?_ (NO142_145.out h_) _; (with_reducible repeat first | apply bN | apply bD | apply bA); refine blk_far ?_ (NO142_145.out h_) _; (with_reducible repeat first | apply bN | apply bD | apply bA); refine blk_far ?_ (NO142_145.out h_) _; (with_reducible repeat first | apply bN | apply bD | apply bA); refine blk_far ?_ (NO142_145.out h_) _; (with_reducible repeat first | apply bN | apply bD | apply bA); exact (OB142.out h_).1))); clear OB142; clear BK145; clear HB; have OB142 := n0_; have BK145 := n1_; have HB := n2_; have BK146 := n3_; have GW146 := n4_; have GE146 := n5_; have NB145_146 := n6_; have NB146_145 := n7_; have NO142_146 := n8_; clear n0_ n1_ n2_ n3_ n4_ n5_ n6_ n7_ n8_; clear hb hbox hg; have hnb9 := NB146_145.out; have hnc9 := NB145_146.out; obtain ⟨hcz10_0, hcz10_1, hcz10_2, hcz10_3, hcz10_4, hcz10_5, hcz10_6, hcz10_7, hcz10_8, hcz10_9, hcz10_10⟩ := blkC11 BK146.out; obtain ⟨hfz10_0, hfz10_1, hfz10_2, hfz10_3, hfz10_4, hfz10_5, hfz10_6, hfz10_7, hfz10_8, hfz10_9, hfz10_10⟩ := blkF11 BK146.out) | ((with_reducible refine gate_callee (f := 52) rfl ?_); refine goesL_ (some 19) rfl rfl Try.func52 (by kernel_rfl) rfl #[.agg #[.string ((rd_T53 l0 x12_1).f0), .int .i64 ((rd_T53 l0 x12_1).f1), .int .i64 ((rd_T53 l0 x12_1).f2), .int .i64 ((rd_T53 l0 x12_1).f3), .int .i64 ((rd_T53 l0 x12_1).f4.f0), .int .i64 ((rd_T53 l0 x12_1).f4.f1), .int .i64 ((rd_T53 l0 x12_1).f4.f2), .int .i64 ((rd_T53 l0 x12_1).f5.f0), .int .i64 ((rd_T53 l0 x12_1).f5.f1), .int .i64 ((rd_T53 l0 x12_1).f6), .string ((rd_T53 l0 x12_1).f7)]] rfl (by (try simp only [List.map_toArray, List.map_cons, List.map_nil]); first | done | rfl | (simp only [List.length_drop, List.length_take]; rfl)) ?_; (with_reducible refine (expand_lasting_first.calls ((rd_T53 l0 x12_1).f0) ((rd_T53 l0 x12_1).f1) ((rd_T53 l0 x12_1).f2) ((rd_T53 l0 x12_1).f3) ((rd_T53 l0 x12_1).f4.f0) ((rd_T53 l0 x12_1).f4.f1) ((rd_T53 l0 x12_1).f4.f2) ((rd_T53 l0 x12_1).f5.f0) ((rd_T53 l0 x12_1).f5.f1) ((rd_T53 l0 x12_1).f6) ((rd_T53 l0 x12_1).f7) t147 _ A5.out).mono ?_); rintro e w11 ⟨rfl, hb⟩; refine ⟨_, rfl, ?_⟩; have n0_ := aM (show (x700_1 = true → _ ∧ _) from fun h_ => ⟨blk_below (o := .cells #[.int .i64 x701_1, .int .i64 x702_1, .int .i64 x703_1, .int .i64 x704_1] 84 (0, 0)) (by (with_reducible repeat first | apply bN | apply bD | apply bA); refine blk_far ?_ (NO142_146.out h_) _; (with_reducible repeat first | apply bN | apply bD | apply bA); refine blk_far ?_ (NO142_146.out h_) _; (with_reducible repeat first | apply bN | apply bD | apply bA); refine blk_far ?_ (NO142_146.out h_) _; (with_reducible repeat first | apply bN | apply bD | apply bA); refine blk_far ?_ (NO142_146.out h_) _; (with_reducible repeat first | apply bN | apply bD | apply bA); refine blk_far ?_ (NO142_146.out h_) _; (with_reducible repeat first | apply bN | apply bD | apply bA); refine blk_far ?_ (NO142_146.out h_) _; (with_reducible repeat first | apply bN | apply bD | apply bA); refine blk_far ?_ (NO142_146.out h_) _; (with_reducible repeat first | apply bN | apply bD | apply bA); refine blk_far ?_ (NO142_146.out h_) _; (with_reducible repeat first | apply bN | apply bD | apply bA); refine blk_far ?_ (NO142_146.out h_) _; (with_reducible repeat first | apply bN | apply bD | apply bA); refine blk_far ?_ (NO142_146.out h_) _; (with_reducible repeat first | apply bN | apply bD | apply bA); refine blk_far ?_ (NO142_146.out h_) _; (with_reducible repeat first | apply bN | apply bD | apply bA); exact (OB142.out h_).1) hb, (OB142.out h_).2⟩); have n1_ := aM (blk_below (g := gb145) (o := .cells #[.string ((rd_T53 l0 x12_1).f0), .int .i64 ((rd_T53 l0 x12_1).f1), .int .i64 ((rd_T53 l0 x12_1).f2), .int .i64 ((rd_T53 l0 x12_1).f3), .int .i64 ((rd_T53 l0 x12_1).f4.f0), .int .i64 ((rd_T53 l0 x12_1).f4.f1), .int .i64 ((rd_T53 l0 x12_1).f4.f2), .int .i64 ((rd_T53 l0 x12_1).f5.f0), .int .i64 ((rd_T53 l0 x12_1).f5.f1), .int .i64 ((rd_T53 l0 x12_1).f6), .string ((rd_T53 l0 x12_1).f7)] 53 (0, 0)) (by (with_reducible repeat first | apply bN | apply bD | apply bA); refine blk_far ?_ NB145_146.out _; (with_reducible repeat first | apply bN | apply bD | apply bA); refine blk_far ?_ NB145_146.out _; (with_reducible repeat first | apply bN | apply bD | apply bA); refine blk_far ?_ NB145_146.out _; (with_reducible repeat first | apply bN | apply bD | apply bA); refine blk_far ?_ NB145_146.out _; (with_reducible repeat first | apply bN | apply bD | apply bA); refine blk_far ?_ NB145_146.out _; (with_reducible repeat first | apply bN | apply bD | apply bA); refine blk_far ?_ NB145_146.out _; (with_reducible repeat first | apply bN | apply bD | apply bA); refine blk_far ?_ NB145_146.out _; (with_reducible repeat first | apply bN | apply bD | apply bA); refine blk_far ?_ NB145_146.out _; (with_reducible repeat first | apply bN | apply bD | apply bA); refine blk_far ?_ NB145_146.out _; (with_reducible repeat first | apply bN | apply bD | apply bA); refine blk_far ?_ NB145_146.out _; (with_reducible repeat first | apply bN | apply bD | apply bA); refine blk_far ?_ NB145_146.out _; (with_reducible repeat first | apply bN | apply bD | apply bA); exact BK145.out) hb); have n2_ := aM (blk_below (g := gb146) (o := .cells #[.string ((rd_T53 l0 x12_1).f0), .int .i64 ((rd_T53 l0 x12_1).f1), .int .i64 ((rd_T53 l0 x12_1).f2), .int .i64 ((rd_T53 l0 x12_1).f3), .int .i64 ((rd_T53 l0 x12_1).f4.f0), .int .i64 ((rd_T53 l0 x12_1).f4.f1), .int .i64 ((rd_T53 l0 x12_1).f4.f2), .int .i64 ((rd_T53 l0 x12_1).f5.f0), .int .i64 ((rd_T53 l0 x12_1).f5.f1), .int .i64 ((rd_T53 l0 x12_1).f6), .string ((rd_T53 l0 x12_1).f7)] 96 (0, 0)) (by (with_reducible repeat first | apply bN | apply bD | apply bA); refine blk_put (cs := #[.string ((rd_T53 l0 x12_1).f0), .int .i64 ((rd_T53 l0 x12_1).f1), .int .i64 ((rd_T53 l0 x12_1).f2), .int .i64 ((rd_T53 l0 x12_1).f3), .int .i64 ((rd_T53 l0 x12_1).f4.f0), .int .i64 ((rd_T53 l0 x12_1).f4.f1), .int .i64 ((rd_T53 l0 x12_1).f4.f2), .int .i64 ((rd_T53 l0 x12_1).f5.f0), .int .i64 ((rd_T53 l0 x12_1).f5.f1), .int .i64 ((rd_T53 l0 x12_1).f6), .string (⟨#[]⟩ : ByteArray)]) ?_ 10 _ rfl; (with_reducible repeat first | apply bN | apply bD | apply bA); refine blk_put (cs := #[.string ((rd_T53 l0 x12_1).f0), .int .i64 ((rd_T53 l0 x12_1).f1), .int .i64 ((rd_T53 l0 x12_1).f2), .int .i64 ((rd_T53 l0 x12_1).f3), .int .i64 ((rd_T53 l0 x12_1).f4.f0), .int .i64 ((rd_T53 l0 x12_1).f4.f1), .int .i64 ((rd_T53 l0 x12_1).f4.f2), .int .i64 ((rd_T53 l0 x12_1).f5.f0), .int .i64 ((rd_T53 l0 x12_1).f5.f1), .int .i64 0, .string (⟨#[]⟩ : ByteArray)]) ?_ 9 _ rfl; (with_reducible repeat first | apply bN | apply bD | apply bA); refine blk_put (cs := #[.string ((rd_T53 l0 x12_1).f0), .int .i64 ((rd_T53 l0 x12_1).f1), .int .i64 ((rd_T53 l0 x12_1).f2), .int .i64 ((rd_T53 l0 x12_1).f3), .int .i64 ((rd_T53 l0 x12_1).f4.f0), .int .i64 ((rd_T53 l0 x12_1).f4.f1), .int .i64 ((rd_T53 l0 x12_1).f4.f2), .int .i64 ((rd_T53 l0 x12_1).f5.f0), .int .i64 0, .int .i64 0, .string (⟨#[]⟩ : ByteArray)]) ?_ 8 _ rfl; (with_reducible repeat first | apply bN | apply bD | apply bA); refine blk_put (cs := #[.string ((rd_T53 l0 x12_1).f0), .int .i64 ((rd_T53 l0 x12_1).f1), .int .i64 ((rd_T53 l0 x12_1).f2), .int .i64 ((rd_T53 l0 x12_1).f3), .int .i64 ((rd_T53 l0 x12_1).f4.f0), .int .i64 ((rd_T53 l0 x12_1).f4.f1), .int .i64 ((rd_T53 l0 x12_1).f4.f2), .int .i64 0, .int .i64 0, .int .i64 0, .string (⟨#[]⟩ : ByteArray)]) ?_ 7 _ rfl; (with_reducible repeat first | apply bN | apply bD | apply bA); refine blk_put (cs := #[.string ((rd_T53 l0 x12_1).f0), .int .i64 ((rd_T53 l0 x12_1).f1), .int .i64 ((rd_T53 l0 x12_1).f2), .int .i64 ((rd_T53 l0 x12_1).f3), .int .i64 ((rd_T53 l0 x12_1).f4.f0), .int .i64 ((rd_T53 l0 x12_1).f4.f1), .int .i64 0, .int .i64 0, .int .i64 0, .int .i64 0, .string (⟨#[]⟩ : ByteArray)]) ?_ 6 _ rfl; (with_reducible repeat first | apply bN | apply bD | apply bA); refine blk_put (cs := #[.string ((rd_T53 l0 x12_1).f0), .int .i64 ((rd_T53 l0 x12_1).f1), .int .i64 ((rd_T53 l0 x12_1).f2), .int .i64 ((rd_T53 l0 x12_1).f3), .int .i64 ((rd_T53 l0 x12_1).f4.f0), .int .i64 0, .int .i64 0, .int .i64 0, .int .i64 0, .int .i64 0, .string (⟨#[]⟩ : ByteArray)]) ?_ 5 _ rfl; (with_reducible repeat first | apply bN | apply bD | apply bA); refine blk_put (cs := #[.string ((rd_T53 l0 x12_1).f0), .int .i64 ((rd_T53 l0 x12_1).f1), .int .i64 ((rd_T53 l0 x12_1).f2), .int .i64 ((rd_T53 l0 x12_1).f3), .int .i64 0, .int .i64 0, .int .i64 0, .int .i64 0, .int .i64 0, .int .i64 0, .string (⟨#[]⟩ : ByteArray)]) ?_ 4 _ rfl; (with_reducible repeat first | apply bN | apply bD | apply bA); refine blk_put (cs := #[.string ((rd_T53 l0 x12_1).f0), .int .i64 ((rd_T53 l0 x12_1).f1), .int .i64 ((rd_T53 l0 x12_1).f2), .int .i64 0, .int .i64 0, .int .i64 0, .int .i64 0, .int .i64 0, .int .i64 0, .int .i64 0, .string (⟨#[]⟩ : ByteArray)]) ?_ 3 _ rfl; (with_reducible repeat first | apply bN | apply bD | apply bA); refine blk_put (cs := #[.string ((rd_T53 l0 x12_1).f0), .int .i64 ((rd_T53 l0 x12_1).f1), .int .i64 0, .int .i64 0, .int .i64 0, .int .i64 0, .int .i64 0, .int .i64 0, .int .i64 0, .int .i64 0, .string (⟨#[]⟩ : ByteArray)]) ?_ 2 _ rfl; (with_reducible repeat first | apply bN | apply bD | apply bA); refine blk_put (cs := #[.string ((rd_T53 l0 x12_1).f0), .int .i64 0, .int .i64 0, .int .i64 0, .int .i64 0, .int .i64 0, .int .i64 0, .int .i64 0, .int .i64 0, .int .i64 0, .string (⟨#[]⟩ : ByteArray)]) ?_ 1 _ rfl; (with_reducible repeat first | apply bN | apply bD | apply bA); refine blk_put (cs := #[.string (⟨#[]⟩ : ByteArray), .int .i64 0, .int .i64 0, .int .i64 0, .int .i64 0, .int .i64 0, .int .i64 0, .int .i64 0, .int .i64 0, .int .i64 0, .string (⟨#[]⟩ : ByteArray)]) ?_ 0 _ rfl; (with_reducible repeat first | apply bN | apply bD | apply bA); exact BK146.out) hb); have n3_ := aM (below_step (by repeat (first | (with_reducible first | exact HB.out | apply lA | apply lN | apply lD | refine lS ?_ GE145.out | refine lS ?_ GE146.out) | exact HB.out)) hb); clear OB142; clear BK145; clear BK146; clear HB; have OB142 := n0_; have BK145 := n1_; have BK146 := n2_; have HB := n3_; clear n0_ n1_ n2_ n3_; (try clear hb); (try clear hb2); (try clear hk); (try clear hi)))
      go_loopg [3, 7] k1 (fun kq v3 v7 w' => ∃ (x7_2 : Int), v3 = optP x700_1 go3_1 ∧ v7 = .int .i64 x7_2 ∧ Aside0 (x700_1 = true → w'.heap[go3_1]? = some (.cells #[.int .i64 x701_1, .int .i64 x702_1, .int .i64 x703_1, .int .i64 x704_1] 84 (0, 0)) ∧ w.heap.size ≤ go3_1) ∧ Aside0 (expand_Letter.l1 kq l0 x12_1 x7_2 l0 (l0.length : Int) x12_1 x700_1 x701_1 x702_1 x703_1 x704_1 ((rd_T53 l0 x12_1).f0) ((rd_T53 l0 x12_1).f1) ((rd_T53 l0 x12_1).f2) ((rd_T53 l0 x12_1).f3) ((rd_T53 l0 x12_1).f4.f0) ((rd_T53 l0 x12_1).f4.f1) ((rd_T53 l0 x12_1).f4.f2) ((rd_T53 l0 x12_1).f5.f0) ((rd_T53 l0 x12_1).f5.f1) ((rd_T53 l0 x12_1).f6) ((rd_T53 l0 x12_1).f7) ((rd_T53 l0 x12_1).f0) ((rd_T53 l0 x12_1).f1) ((rd_T53 l0 x12_1).f2) ((rd_T53 l0 x12_1).f3) ((rd_T53 l0 x12_1).f4.f0) ((rd_T53 l0 x12_1).f4.f1) ((rd_T53 l0 x12_1).f4.f2) ((rd_T53 l0 x12_1).f5.f0) ((rd_T53 l0 x12_1).f5.f1) ((rd_T53 l0 x12_1).f6) ((rd_T53 l0 x12_1).f7) = some r) ∧ Aside0 (kq ≤ k1) ∧ Aside0 (w'.heap[gb145]? = some (.cells #[.string ((rd_T53 l0 x12_1).f0), .int .i64 ((rd_T53 l0 x12_1).f1), .int .i64 ((rd_T53 l0 x12_1).f2), .int .i64 ((rd_T53 l0 x12_1).f3), .int .i64 ((rd_T53 l0 x12_1).f4.f0), .int .i64 ((rd_T53 l0 x12_1).f4.f1), .int .i64 ((rd_T53 l0 x12_1).f4.f2), .int .i64 ((rd_T53 l0 x12_1).f5.f0), .int .i64 ((rd_T53 l0 x12_1).f5.f1), .int .i64 ((rd_T53 l0 x12_1).f6), .string ((rd_T53 l0 x12_1).f7)] 53 (0, 0))) ∧ Aside0 (w'.heap[gb146]? = some (.cells #[.string ((rd_T53 l0 x12_1).f0), .int .i64 ((rd_T53 l0 x12_1).f1), .int .i64 ((rd_T53 l0 x12_1).f2), .int .i64 ((rd_T53 l0 x12_1).f3), .int .i64 ((rd_T53 l0 x12_1).f4.f0), .int .i64 ((rd_T53 l0 x12_1).f4.f1), .int .i64 ((rd_T53 l0 x12_1).f4.f2), .int .i64 ((rd_T53 l0 x12_1).f5.f0), .int .i64 ((rd_T53 l0 x12_1).f5.f1), .int .i64 ((rd_T53 l0 x12_1).f6), .string ((rd_T53 l0 x12_1).f7)] 96 (0, 0))) ∧ Aside0 (Below w.heap.size w w'))
      case atStart => exact ⟨(t147), rfl, (by first | rfl | (simp; done) | (simp [*]; done)), ⟨fun h_ => ⟨by (with_reducible repeat first | apply bN | apply bD | apply bA); exact (OB142.out h_).1, (OB142.out h_).2⟩⟩, H', ⟨Nat.le_refl _⟩, ⟨by (with_reducible repeat first | apply bN | apply bD | apply bA); exact BK145.out⟩, ⟨by (with_reducible repeat first | apply bN | apply bD | apply bA); exact BK146.out⟩, ⟨by repeat (first | (with_reducible first | exact HB.out | apply lA | apply lN | apply lD | refine lS ?_ GE145.out | refine lS ?_ GE146.out) | exact HB.out)⟩⟩
      case round =>
       clear H'
       try clear p1; try clear q1; try clear hx1; try clear c2; try clear c2b0; try clear p2; try clear c3; try clear c3b0; try clear c4; try clear c4b0; try clear c5; try clear c9; try clear hcz10_0; try clear hcz10_1; try clear hcz10_10; try clear hcz10_2; try clear hcz10_3; try clear hcz10_4; try clear hcz10_5; try clear hcz10_6; try clear hcz10_7; try clear hcz10_8; try clear hcz10_9; try clear hcz7_0; try clear hcz7_1; try clear hcz7_10; try clear hcz7_2; try clear hcz7_3; try clear hcz7_4; try clear hcz7_5; try clear hcz7_6; try clear hcz7_7; try clear hcz7_8; try clear hcz7_9; try clear hfz10_0; try clear hfz10_1; try clear hfz10_10; try clear hfz10_2; try clear hfz10_3; try clear hfz10_4; try clear hfz10_5; try clear hfz10_6; try clear hfz10_7; try clear hfz10_8; try clear hfz10_9; try clear hfz7_0; try clear hfz7_1; try clear hfz7_10; try clear hfz7_2; try clear hfz7_3; try clear hfz7_4; try clear hfz7_5; try clear hfz7_6; try clear hfz7_7; try clear hfz7_8; try clear hfz7_9; try clear hx144_0; try clear hx144_1; try clear hx144_10; try clear hx144_2; try clear hx144_3; try clear hx144_4; try clear hx144_5; try clear hx144_6; try clear hx144_7; try clear hx144_8; try clear hx144_9; try clear p144; try clear q144
       obtain ⟨x7_2, rfl, rfl, OB142, HA, HK2, BK145, BK146, HB⟩ := hrel
       cases gk with
       | zero => exact absurd HA.out (by simp [expand_Letter.l1])
       | succ k2 =>
        have H := HA.out
        clear HA
        simp only [expand_Letter.l1] at H
        have HC12 := aM H
        clear H
        go_upto_region 7 with (fail)
        go_cut [32] (fun v32 wc => ∃ (kq : Nat) (x32_11 : Bool), v32 = .bool x32_11 ∧ Aside0 (x700_1 = true → wc.heap[go3_1]? = some (.cells #[.int .i64 x701_1, .int .i64 x702_1, .int .i64 x703_1, .int .i64 x704_1] 84 (0, 0)) ∧ w.heap.size ≤ go3_1) ∧ Aside0 (expand_Letter.j2 kq l0 x12_1 x7_2 l0 (l0.length : Int) x12_1 x32_11 x700_1 x701_1 x702_1 x703_1 x704_1 ((rd_T53 l0 x12_1).f0) ((rd_T53 l0 x12_1).f1) ((rd_T53 l0 x12_1).f2) ((rd_T53 l0 x12_1).f3) ((rd_T53 l0 x12_1).f4.f0) ((rd_T53 l0 x12_1).f4.f1) ((rd_T53 l0 x12_1).f4.f2) ((rd_T53 l0 x12_1).f5.f0) ((rd_T53 l0 x12_1).f5.f1) ((rd_T53 l0 x12_1).f6) ((rd_T53 l0 x12_1).f7) ((rd_T53 l0 x12_1).f0) ((rd_T53 l0 x12_1).f1) ((rd_T53 l0 x12_1).f2) ((rd_T53 l0 x12_1).f3) ((rd_T53 l0 x12_1).f4.f0) ((rd_T53 l0 x12_1).f4.f1) ((rd_T53 l0 x12_1).f4.f2) ((rd_T53 l0 x12_1).f5.f0) ((rd_T53 l0 x12_1).f5.f1) ((rd_T53 l0 x12_1).f6) ((rd_T53 l0 x12_1).f7) = some r) ∧ Aside0 (kq ≤ k2) ∧ Aside0 (wc.heap[gb145]? = some (.cells #[.string ((rd_T53 l0 x12_1).f0), .int .i64 ((rd_T53 l0 x12_1).f1), .int .i64 ((rd_T53 l0 x12_1).f2), .int .i64 ((rd_T53 l0 x12_1).f3), .int .i64 ((rd_T53 l0 x12_1).f4.f0), .int .i64 ((rd_T53 l0 x12_1).f4.f1), .int .i64 ((rd_T53 l0 x12_1).f4.f2), .int .i64 ((rd_T53 l0 x12_1).f5.f0), .int .i64 ((rd_T53 l0 x12_1).f5.f1), .int .i64 ((rd_T53 l0 x12_1).f6), .string ((rd_T53 l0 x12_1).f7)] 53 (0, 0))) ∧ Aside0 (wc.heap[gb146]? = some (.cells #[.string ((rd_T53 l0 x12_1).f0), .int .i64 ((rd_T53 l0 x12_1).f1), .int .i64 ((rd_T53 l0 x12_1).f2), .int .i64 ((rd_T53 l0 x12_1).f3), .int .i64 ((rd_T53 l0 x12_1).f4.f0), .int .i64 ((rd_T53 l0 x12_1).f4.f1), .int .i64 ((rd_T53 l0 x12_1).f4.f2), .int .i64 ((rd_T53 l0 x12_1).f5.f0), .int .i64 ((rd_T53 l0 x12_1).f5.f1), .int .i64 ((rd_T53 l0 x12_1).f6), .string ((rd_T53 l0 x12_1).f7)] 96 (0, 0))) ∧ Aside0 (Below w.heap.size w wc))
        case first =>
         have H := HC12.out
         clear HC12
         replace H := Option.bind_eq_some_iff.mp H
         obtain ⟨t148, A130, H⟩ := H
         replace H : ((expand_lasting_first.f ((rd_T53 l0 x12_1).f0) ((rd_T53 l0 x12_1).f1) ((rd_T53 l0 x12_1).f2) ((rd_T53 l0 x12_1).f3) ((rd_T53 l0 x12_1).f4.f0) ((rd_T53 l0 x12_1).f4.f1) ((rd_T53 l0 x12_1).f4.f2) ((rd_T53 l0 x12_1).f5.f0) ((rd_T53 l0 x12_1).f5.f1) ((rd_T53 l0 x12_1).f6) ((rd_T53 l0 x12_1).f7)).bind fun t149 => (if x7_2 ≤ (mn t148 (wrap64 (t149 + 8))) then (expand_Letter.j2 k2 l0 x12_1 x7_2 l0 (l0.length : Int) x12_1 (((rd_T53 l0 x12_1).f6) == 0) x700_1 x701_1 x702_1 x703_1 x704_1 ((rd_T53 l0 x12_1).f0) ((rd_T53 l0 x12_1).f1) ((rd_T53 l0 x12_1).f2) ((rd_T53 l0 x12_1).f3) ((rd_T53 l0 x12_1).f4.f0) ((rd_T53 l0 x12_1).f4.f1) ((rd_T53 l0 x12_1).f4.f2) ((rd_T53 l0 x12_1).f5.f0) ((rd_T53 l0 x12_1).f5.f1) ((rd_T53 l0 x12_1).f6) ((rd_T53 l0 x12_1).f7) ((rd_T53 l0 x12_1).f0) ((rd_T53 l0 x12_1).f1) ((rd_T53 l0 x12_1).f2) ((rd_T53 l0 x12_1).f3) ((rd_T53 l0 x12_1).f4.f0) ((rd_T53 l0 x12_1).f4.f1) ((rd_T53 l0 x12_1).f4.f2) ((rd_T53 l0 x12_1).f5.f0) ((rd_T53 l0 x12_1).f5.f1) ((rd_T53 l0 x12_1).f6) ((rd_T53 l0 x12_1).f7)) else (expand_Letter.j2 k2 l0 x12_1 x7_2 l0 (l0.length : Int) x12_1 false x700_1 x701_1 x702_1 x703_1 x704_1 ((rd_T53 l0 x12_1).f0) ((rd_T53 l0 x12_1).f1) ((rd_T53 l0 x12_1).f2) ((rd_T53 l0 x12_1).f3) ((rd_T53 l0 x12_1).f4.f0) ((rd_T53 l0 x12_1).f4.f1) ((rd_T53 l0 x12_1).f4.f2) ((rd_T53 l0 x12_1).f5.f0) ((rd_T53 l0 x12_1).f5.f1) ((rd_T53 l0 x12_1).f6) ((rd_T53 l0 x12_1).f7) ((rd_T53 l0 x12_1).f0) ((rd_T53 l0 x12_1).f1) ((rd_T53 l0 x12_1).f2) ((rd_T53 l0 x12_1).f3) ((rd_T53 l0 x12_1).f4.f0) ((rd_T53 l0 x12_1).f4.f1) ((rd_T53 l0 x12_1).f4.f2) ((rd_T53 l0 x12_1).f5.f0) ((rd_T53 l0 x12_1).f5.f1) ((rd_T53 l0 x12_1).f6) ((rd_T53 l0 x12_1).f7)))) = some r := H
         have A13 := aM A130
         clear A130
         replace H := Option.bind_eq_some_iff.mp H
         obtain ⟨t149, A140, H⟩ := H
         replace H : (if x7_2 ≤ (mn t148 (wrap64 (t149 + 8))) then (expand_Letter.j2 k2 l0 x12_1 x7_2 l0 (l0.length : Int) x12_1 (((rd_T53 l0 x12_1).f6) == 0) x700_1 x701_1 x702_1 x703_1 x704_1 ((rd_T53 l0 x12_1).f0) ((rd_T53 l0 x12_1).f1) ((rd_T53 l0 x12_1).f2) ((rd_T53 l0 x12_1).f3) ((rd_T53 l0 x12_1).f4.f0) ((rd_T53 l0 x12_1).f4.f1) ((rd_T53 l0 x12_1).f4.f2) ((rd_T53 l0 x12_1).f5.f0) ((rd_T53 l0 x12_1).f5.f1) ((rd_T53 l0 x12_1).f6) ((rd_T53 l0 x12_1).f7) ((rd_T53 l0 x12_1).f0) ((rd_T53 l0 x12_1).f1) ((rd_T53 l0 x12_1).f2) ((rd_T53 l0 x12_1).f3) ((rd_T53 l0 x12_1).f4.f0) ((rd_T53 l0 x12_1).f4.f1) ((rd_T53 l0 x12_1).f4.f2) ((rd_T53 l0 x12_1).f5.f0) ((rd_T53 l0 x12_1).f5.f1) ((rd_T53 l0 x12_1).f6) ((rd_T53 l0 x12_1).f7)) else (expand_Letter.j2 k2 l0 x12_1 x7_2 l0 (l0.length : Int) x12_1 false x700_1 x701_1 x702_1 x703_1 x704_1 ((rd_T53 l0 x12_1).f0) ((rd_T53 l0 x12_1).f1) ((rd_T53 l0 x12_1).f2) ((rd_T53 l0 x12_1).f3) ((rd_T53 l0 x12_1).f4.f0) ((rd_T53 l0 x12_1).f4.f1) ((rd_T53 l0 x12_1).f4.f2) ((rd_T53 l0 x12_1).f5.f0) ((rd_T53 l0 x12_1).f5.f1) ((rd_T53 l0 x12_1).f6) ((rd_T53 l0 x12_1).f7) ((rd_T53 l0 x12_1).f0) ((rd_T53 l0 x12_1).f1) ((rd_T53 l0 x12_1).f2) ((rd_T53 l0 x12_1).f3) ((rd_T53 l0 x12_1).f4.f0) ((rd_T53 l0 x12_1).f4.f1) ((rd_T53 l0 x12_1).f4.f2) ((rd_T53 l0 x12_1).f5.f0) ((rd_T53 l0 x12_1).f5.f1) ((rd_T53 l0 x12_1).f6) ((rd_T53 l0 x12_1).f7))) = some r := H
         have A14 := aM A140
         clear A140
         obtain ⟨ji15, hji15⟩ : ∃ j_ : Int, (mn t148 (wrap64 (t149 + 8))) = j_ := ⟨_, rfl⟩
         replace H : (if x7_2 ≤ (ji15) then (expand_Letter.j2 k2 l0 x12_1 x7_2 l0 (l0.length : Int) x12_1 (((rd_T53 l0 x12_1).f6) == 0) x700_1 x701_1 x702_1 x703_1 x704_1 ((rd_T53 l0 x12_1).f0) ((rd_T53 l0 x12_1).f1) ((rd_T53 l0 x12_1).f2) ((rd_T53 l0 x12_1).f3) ((rd_T53 l0 x12_1).f4.f0) ((rd_T53 l0 x12_1).f4.f1) ((rd_T53 l0 x12_1).f4.f2) ((rd_T53 l0 x12_1).f5.f0) ((rd_T53 l0 x12_1).f5.f1) ((rd_T53 l0 x12_1).f6) ((rd_T53 l0 x12_1).f7) ((rd_T53 l0 x12_1).f0) ((rd_T53 l0 x12_1).f1) ((rd_T53 l0 x12_1).f2) ((rd_T53 l0 x12_1).f3) ((rd_T53 l0 x12_1).f4.f0) ((rd_T53 l0 x12_1).f4.f1) ((rd_T53 l0 x12_1).f4.f2) ((rd_T53 l0 x12_1).f5.f0) ((rd_T53 l0 x12_1).f5.f1) ((rd_T53 l0 x12_1).f6) ((rd_T53 l0 x12_1).f7)) else (expand_Letter.j2 k2 l0 x12_1 x7_2 l0 (l0.length : Int) x12_1 false x700_1 x701_1 x702_1 x703_1 x704_1 ((rd_T53 l0 x12_1).f0) ((rd_T53 l0 x12_1).f1) ((rd_T53 l0 x12_1).f2) ((rd_T53 l0 x12_1).f3) ((rd_T53 l0 x12_1).f4.f0) ((rd_T53 l0 x12_1).f4.f1) ((rd_T53 l0 x12_1).f4.f2) ((rd_T53 l0 x12_1).f5.f0) ((rd_T53 l0 x12_1).f5.f1) ((rd_T53 l0 x12_1).f6) ((rd_T53 l0 x12_1).f7) ((rd_T53 l0 x12_1).f0) ((rd_T53 l0 x12_1).f1) ((rd_T53 l0 x12_1).f2) ((rd_T53 l0 x12_1).f3) ((rd_T53 l0 x12_1).f4.f0) ((rd_T53 l0 x12_1).f4.f1) ((rd_T53 l0 x12_1).f4.f2) ((rd_T53 l0 x12_1).f5.f0) ((rd_T53 l0 x12_1).f5.f1) ((rd_T53 l0 x12_1).f6) ((rd_T53 l0 x12_1).f7))) = some r := by first | (rw [hji15] at H; exact H) | (simp only [hji15] at H ⊢; exact H)
         (try rw [hji15] at A13)
         (try rw [hji15] at A14)
         have hji15_ : (if (wrap64 (t149 + 8)) < t148 then (wrap64 (t149 + 8)) else t148) = ji15 := hji15
         by_cases c16 : x7_2 ≤ (ji15)
         ·rw [if_pos c16] at H
          have c16b0 : decide (x7_2 ≤ (ji15)) = true := decide_eq_true c16
          clear c16
          (first | rw [c16b0] | (simp only [i64_w, i32_w]; rw [c16b0]) | skip)
          have H' := aM H
          clear H
          try go_wp2
          have n0_ := aM (blk_drew BK145.out)
          have n1_ := aM (blk_drew BK146.out)
          have n2_ := aM (show (x700_1 = true → _ ∧ _) from fun h_ => ⟨blk_drew (o := .cells #[.int .i64 x701_1, .int .i64 x702_1, .int .i64 x703_1, .int .i64 x704_1] 84 (0, 0)) (OB142.out h_).1, (OB142.out h_).2⟩)
          have n3_ := aM (lD HB.out)
          clear BK145
          clear BK146
          clear OB142
          clear HB
          have BK145 := n0_
          have BK146 := n1_
          have OB142 := n2_
          have HB := n3_
          clear n0_ n1_ n2_ n3_
          refine start_ (n := 13) (S := fun w' => w'.cell? ⟨gb146, 0, none⟩ = some (.string ((rd_T53 l0 x12_1).f0)) ∧ w'.cell? ⟨gb146, 1, none⟩ = some (.int .i64 ((rd_T53 l0 x12_1).f1)) ∧ w'.cell? ⟨gb146, 2, none⟩ = some (.int .i64 ((rd_T53 l0 x12_1).f2)) ∧ w'.cell? ⟨gb146, 3, none⟩ = some (.int .i64 ((rd_T53 l0 x12_1).f3)) ∧ w'.cell? ⟨gb146, 4, none⟩ = some (.int .i64 ((rd_T53 l0 x12_1).f4.f0)) ∧ w'.cell? ⟨gb146, 5, none⟩ = some (.int .i64 ((rd_T53 l0 x12_1).f4.f1)) ∧ w'.cell? ⟨gb146, 6, none⟩ = some (.int .i64 ((rd_T53 l0 x12_1).f4.f2)) ∧ w'.cell? ⟨gb146, 7, none⟩ = some (.int .i64 ((rd_T53 l0 x12_1).f5.f0)) ∧ w'.cell? ⟨gb146, 8, none⟩ = some (.int .i64 ((rd_T53 l0 x12_1).f5.f1)) ∧ w'.cell? ⟨gb146, 9, none⟩ = some (.int .i64 ((rd_T53 l0 x12_1).f6)) ∧ w'.cell? ⟨gb146, 10, none⟩ = some (.string ((rd_T53 l0 x12_1).f7)) ∧ w'.cell? ⟨gb145, 0, none⟩ = some (.string ((rd_T53 l0 x12_1).f0)) ∧ w'.cell? ⟨gb145, 1, none⟩ = some (.int .i64 ((rd_T53 l0 x12_1).f1)) ∧ w'.cell? ⟨gb145, 2, none⟩ = some (.int .i64 ((rd_T53 l0 x12_1).f2)) ∧ w'.cell? ⟨gb145, 3, none⟩ = some (.int .i64 ((rd_T53 l0 x12_1).f3)) ∧ w'.cell? ⟨gb145, 4, none⟩ = some (.int .i64 ((rd_T53 l0 x12_1).f4.f0)) ∧ w'.cell? ⟨gb145, 5, none⟩ = some (.int .i64 ((rd_T53 l0 x12_1).f4.f1)) ∧ w'.cell? ⟨gb145, 6, none⟩ = some (.int .i64 ((rd_T53 l0 x12_1).f4.f2)) ∧ w'.cell? ⟨gb145, 7, none⟩ = some (.int .i64 ((rd_T53 l0 x12_1).f5.f0)) ∧ w'.cell? ⟨gb145, 8, none⟩ = some (.int .i64 ((rd_T53 l0 x12_1).f5.f1)) ∧ w'.cell? ⟨gb145, 9, none⟩ = some (.int .i64 ((rd_T53 l0 x12_1).f6)) ∧ w'.cell? ⟨gb145, 10, none⟩ = some (.string ((rd_T53 l0 x12_1).f7))) (ds := []) #[false, false, false, false, false, false, false, false, false, false, false, false, false] (by kernel_rfl) rfl rfl ⟨(blk_cell BK146.out 0).trans rfl, (blk_cell BK146.out 1).trans rfl, (blk_cell BK146.out 2).trans rfl, (blk_cell BK146.out 3).trans rfl, (blk_cell BK146.out 4).trans rfl, (blk_cell BK146.out 5).trans rfl, (blk_cell BK146.out 6).trans rfl, (blk_cell BK146.out 7).trans rfl, (blk_cell BK146.out 8).trans rfl, (blk_cell BK146.out 9).trans rfl, (blk_cell BK146.out 10).trans rfl, (blk_cell BK145.out 0).trans rfl, (blk_cell BK145.out 1).trans rfl, (blk_cell BK145.out 2).trans rfl, (blk_cell BK145.out 3).trans rfl, (blk_cell BK145.out 4).trans rfl, (blk_cell BK145.out 5).trans rfl, (blk_cell BK145.out 6).trans rfl, (blk_cell BK145.out 7).trans rfl, (blk_cell BK145.out 8).trans rfl, (blk_cell BK145.out 9).trans rfl, (blk_cell BK145.out 10).trans rfl⟩ (fun hHeld => ?_); refine with_tabW expand_Letter.tab7 expand_Letter.bits7 (fun HT_ HW_ => ?_)
          generalize wr.drew = w17 at BK145 BK146 OB142 HB hHeld ⊢
          refine pure_ (i := 0) (N := some 20) (v := ?_) (a' := ?_) #[true, false, false, false, false, false, false, false, false, false, false, false, false] rfl rfl (any_of HT_.out (by kernel_rfl)) (fun _ _ _ h => h) (Or.inl ⟨by rfl, ?_⟩) ?_ ?_
          rotate_left
          ·intro w'
           go_simp
           with_reducible rfl
          rotate_left
          ·simp only [Act.put, sA, sZ, sS, i64_w, i32_w]
           rfl
          refine take_ (i := 1) (N := some 21) (v := ?_) (a' := ?_) #[true, true, false, false, false, false, false, false, false, false, false, false, false] rfl rfl (take_ofW HT_.out HW_.out (by kernel_rfl)) (fun _ _ _ h => h) (Or.inl ⟨by rfl, ?_⟩) hHeld ?_ ?_
          rotate_left
          ·rintro w' ⟨s0, s1, s2, s3, s4, s5, s6, s7, s8, s9, s10, s11, s12, s13, s14, s15, s16, s17, s18, s19, s20, s21⟩
           go_simp
           with_reducible rfl
          rotate_left
          ·simp only [Act.put, sA, sZ, sS, i64_w, i32_w]
           rfl
          refine take_ (i := 3) (N := some 23) (v := ?_) (a' := ?_) #[true, true, false, true, false, false, false, false, false, false, false, false, false] rfl rfl (take_ofW HT_.out HW_.out (by kernel_rfl)) (fun _ _ _ h => h) (Or.inl ⟨by rfl, ?_⟩) hHeld ?_ ?_
          rotate_left
          ·rintro w' ⟨s0, s1, s2, s3, s4, s5, s6, s7, s8, s9, s10, s11, s12, s13, s14, s15, s16, s17, s18, s19, s20, s21⟩
           go_simp
           with_reducible rfl
          rotate_left
          ·simp only [Act.put, sA, sZ, sS, i64_w, i32_w]
           rfl
          refine one_ (i := 2) (N := some 22) #[true, true, true, true, false, false, false, false, false, false, false, false, false] rfl rfl (one_of HT_.out (by kernel_rfl)) (by decide) (fun K hK => ?_)
          refine goes_ Try.func53 (by kernel_rfl) rfl #[.agg #[.string ((rd_T53 l0 x12_1).f0), .int .i64 ((rd_T53 l0 x12_1).f1), .int .i64 ((rd_T53 l0 x12_1).f2), .int .i64 ((rd_T53 l0 x12_1).f3), .int .i64 ((rd_T53 l0 x12_1).f4.f0), .int .i64 ((rd_T53 l0 x12_1).f4.f1), .int .i64 ((rd_T53 l0 x12_1).f4.f2), .int .i64 ((rd_T53 l0 x12_1).f5.f0), .int .i64 ((rd_T53 l0 x12_1).f5.f1), .int .i64 ((rd_T53 l0 x12_1).f6), .string ((rd_T53 l0 x12_1).f7)]] (by rfl) rfl rfl (by (try simp only [List.map_toArray, List.map_cons, List.map_nil]); first | done | rfl | (simp only [List.length_drop, List.length_take]; rfl)) ?_
          with_reducible refine (expand_lasting_last.calls ((rd_T53 l0 x12_1).f0) ((rd_T53 l0 x12_1).f1) ((rd_T53 l0 x12_1).f2) ((rd_T53 l0 x12_1).f3) ((rd_T53 l0 x12_1).f4.f0) ((rd_T53 l0 x12_1).f4.f1) ((rd_T53 l0 x12_1).f4.f2) ((rd_T53 l0 x12_1).f5.f0) ((rd_T53 l0 x12_1).f5.f1) ((rd_T53 l0 x12_1).f6) ((rd_T53 l0 x12_1).f7) t148 _ A13.out).mono ?_
          rintro e w18 ⟨rfl, hb⟩
          refine ⟨_, rfl, ?_⟩
          have n0_ := aM (blk_below (bX BK145.out) hb)
          have n1_ := aM (blk_below (bX BK146.out) hb)
          have n2_ := aM (show (x700_1 = true → _ ∧ _) from fun h_ => ⟨blk_below (o := .cells #[.int .i64 x701_1, .int .i64 x702_1, .int .i64 x703_1, .int .i64 x704_1] 84 (0, 0)) (by (with_reducible repeat first | apply bN | apply bD | apply bA); exact (OB142.out h_).1) hb, (OB142.out h_).2⟩)
          have n3_ := aM (below_step (by repeat (first | (with_reducible first | exact HB.out | apply lA | apply lN | apply lD | refine lS ?_ GE145.out | refine lS ?_ GE146.out) | exact HB.out)) hb)
          clear BK145
          clear BK146
          clear OB142
          clear HB
          have BK145 := n0_
          have BK146 := n1_
          have OB142 := n2_
          have HB := n3_
          clear n0_ n1_ n2_ n3_
          (try clear hb)
          (try clear hb2)
          (try clear hk)
          (try clear hi)
          refine hK.out _ _ ⟨(blk_cell BK146.out 0).trans rfl, (blk_cell BK146.out 1).trans rfl, (blk_cell BK146.out 2).trans rfl, (blk_cell BK146.out 3).trans rfl, (blk_cell BK146.out 4).trans rfl, (blk_cell BK146.out 5).trans rfl, (blk_cell BK146.out 6).trans rfl, (blk_cell BK146.out 7).trans rfl, (blk_cell BK146.out 8).trans rfl, (blk_cell BK146.out 9).trans rfl, (blk_cell BK146.out 10).trans rfl, (blk_cell BK145.out 0).trans rfl, (blk_cell BK145.out 1).trans rfl, (blk_cell BK145.out 2).trans rfl, (blk_cell BK145.out 3).trans rfl, (blk_cell BK145.out 4).trans rfl, (blk_cell BK145.out 5).trans rfl, (blk_cell BK145.out 6).trans rfl, (blk_cell BK145.out 7).trans rfl, (blk_cell BK145.out 8).trans rfl, (blk_cell BK145.out 9).trans rfl, (blk_cell BK145.out 10).trans rfl⟩ (fun hHeld => ?_)
          clear hK K
          refine norm_ (a' := ?_) ?_ ?_
          rotate_left
          ·show Act.put _ (some 22) _ = _
           simp only [Act.put, sA, sZ, sS, i64_w, i32_w]
           rfl
          refine one_ (i := 4) (N := some 24) #[true, true, true, true, true, false, false, false, false, false, false, false, false] rfl rfl (one_of HT_.out (by kernel_rfl)) (by decide) (fun K hK => ?_)
          refine goes_ Try.func52 (by kernel_rfl) rfl #[.agg #[.string ((rd_T53 l0 x12_1).f0), .int .i64 ((rd_T53 l0 x12_1).f1), .int .i64 ((rd_T53 l0 x12_1).f2), .int .i64 ((rd_T53 l0 x12_1).f3), .int .i64 ((rd_T53 l0 x12_1).f4.f0), .int .i64 ((rd_T53 l0 x12_1).f4.f1), .int .i64 ((rd_T53 l0 x12_1).f4.f2), .int .i64 ((rd_T53 l0 x12_1).f5.f0), .int .i64 ((rd_T53 l0 x12_1).f5.f1), .int .i64 ((rd_T53 l0 x12_1).f6), .string ((rd_T53 l0 x12_1).f7)]] (by rfl) rfl rfl (by (try simp only [List.map_toArray, List.map_cons, List.map_nil]); first | done | rfl | (simp only [List.length_drop, List.length_take]; rfl)) ?_
          with_reducible refine (expand_lasting_first.calls ((rd_T53 l0 x12_1).f0) ((rd_T53 l0 x12_1).f1) ((rd_T53 l0 x12_1).f2) ((rd_T53 l0 x12_1).f3) ((rd_T53 l0 x12_1).f4.f0) ((rd_T53 l0 x12_1).f4.f1) ((rd_T53 l0 x12_1).f4.f2) ((rd_T53 l0 x12_1).f5.f0) ((rd_T53 l0 x12_1).f5.f1) ((rd_T53 l0 x12_1).f6) ((rd_T53 l0 x12_1).f7) t149 _ A14.out).mono ?_
          rintro e w19 ⟨rfl, hb⟩
          refine ⟨_, rfl, ?_⟩
          have n0_ := aM (blk_below (bX BK145.out) hb)
          have n1_ := aM (blk_below (bX BK146.out) hb)
          have n2_ := aM (show (x700_1 = true → _ ∧ _) from fun h_ => ⟨blk_below (o := .cells #[.int .i64 x701_1, .int .i64 x702_1, .int .i64 x703_1, .int .i64 x704_1] 84 (0, 0)) (by (with_reducible repeat first | apply bN | apply bD | apply bA); exact (OB142.out h_).1) hb, (OB142.out h_).2⟩)
          have n3_ := aM (below_step (by repeat (first | (with_reducible first | exact HB.out | apply lA | apply lN | apply lD | refine lS ?_ GE145.out | refine lS ?_ GE146.out) | exact HB.out)) hb)
          clear BK145
          clear BK146
          clear OB142
          clear HB
          have BK145 := n0_
          have BK146 := n1_
          have OB142 := n2_
          have HB := n3_
          clear n0_ n1_ n2_ n3_
          (try clear hb)
          (try clear hb2)
          (try clear hk)
          (try clear hi)
          refine hK.out _ _ ⟨(blk_cell BK146.out 0).trans rfl, (blk_cell BK146.out 1).trans rfl, (blk_cell BK146.out 2).trans rfl, (blk_cell BK146.out 3).trans rfl, (blk_cell BK146.out 4).trans rfl, (blk_cell BK146.out 5).trans rfl, (blk_cell BK146.out 6).trans rfl, (blk_cell BK146.out 7).trans rfl, (blk_cell BK146.out 8).trans rfl, (blk_cell BK146.out 9).trans rfl, (blk_cell BK146.out 10).trans rfl, (blk_cell BK145.out 0).trans rfl, (blk_cell BK145.out 1).trans rfl, (blk_cell BK145.out 2).trans rfl, (blk_cell BK145.out 3).trans rfl, (blk_cell BK145.out 4).trans rfl, (blk_cell BK145.out 5).trans rfl, (blk_cell BK145.out 6).trans rfl, (blk_cell BK145.out 7).trans rfl, (blk_cell BK145.out 8).trans rfl, (blk_cell BK145.out 9).trans rfl, (blk_cell BK145.out 10).trans rfl⟩ (fun hHeld => ?_)
          clear hK K
          refine norm_ (a' := ?_) ?_ ?_
          rotate_left
          ·show Act.put _ (some 24) _ = _
           simp only [Act.put, sA, sZ, sS, i64_w, i32_w]
           rfl
          refine pure_ (i := 5) (N := some 25) (v := ?_) (a' := ?_) #[true, true, true, true, true, true, false, false, false, false, false, false, false] rfl rfl (any_of HT_.out (by kernel_rfl)) (fun _ _ _ h => h) (Or.inl ⟨by rfl, ?_⟩) ?_ ?_
          rotate_left
          ·intro w'
           go_simp
           with_reducible rfl
          rotate_left
          ·simp only [Act.put, sA, sZ, sS, i64_w, i32_w]
           rfl
          refine pure_ (i := 6) (N := some 26) (v := ?_) (a' := ?_) #[true, true, true, true, true, true, true, false, false, false, false, false, false] rfl rfl (any_of HT_.out (by kernel_rfl)) (fun _ _ _ h => h) (Or.inl ⟨by rfl, ?_⟩) ?_ ?_
          rotate_left
          ·intro w'
           go_simp
           with_reducible rfl
          rotate_left
          ·simp only [Act.put, sA, sZ, sS, i64_w, i32_w]
           rfl
          refine pure_ (i := 7) (N := some 27) (v := ?_) (a' := ?_) #[true, true, true, true, true, true, true, true, false, false, false, false, false] rfl rfl (any_of HT_.out (by kernel_rfl)) (fun _ _ _ h => h) (Or.inl ⟨by rfl, ?_⟩) ?_ ?_
          rotate_left
          ·intro w'
           go_simp
           with_reducible rfl
          rotate_left
          ·simp only [Act.put, sA, sZ, sS, i64_w, i32_w]
           rfl
          refine pure_ (i := 8) (N := some 28) (v := ?_) (a' := ?_) #[true, true, true, true, true, true, true, true, true, false, false, false, false] rfl rfl (any_of HT_.out (by kernel_rfl)) (fun _ _ _ h => h) (Or.inl ⟨by rfl, ?_⟩) ?_ ?_
          rotate_left
          ·intro w'
           go_simp
           with_reducible rfl
          rotate_left
          ·simp only [Act.put, sA, sZ, sS, i64_w, i32_w]
           rfl
          refine pure_ (i := 9) (N := some 29) (v := ?_) (a' := ?_) #[true, true, true, true, true, true, true, true, true, true, false, false, false] rfl rfl (any_of HT_.out (by kernel_rfl)) (fun _ _ _ h => h) (Or.inl ⟨by rfl, ?_⟩) ?_ ?_
          rotate_left
          ·intro w'
           go_simp
           with_reducible rfl
          rotate_left
          ·simp only [Act.put, sA, sZ, sS, i64_w, i32_w]
           rfl
          refine take_ (i := 10) (N := some 30) (v := ?_) (a' := ?_) #[true, true, true, true, true, true, true, true, true, true, true, false, false] rfl rfl (take_ofW HT_.out HW_.out (by kernel_rfl)) (fun _ _ _ h => h) (Or.inl ⟨by rfl, ?_⟩) hHeld ?_ ?_
          rotate_left
          ·rintro w' ⟨s0, s1, s2, s3, s4, s5, s6, s7, s8, s9, s10, s11, s12, s13, s14, s15, s16, s17, s18, s19, s20, s21⟩
           go_simp
           with_reducible rfl
          rotate_left
          ·simp only [Act.put, sA, sZ, sS, i64_w, i32_w]
           rfl
          refine pure_ (i := 11) (N := some 31) (v := ?_) (a' := ?_) #[true, true, true, true, true, true, true, true, true, true, true, true, false] rfl rfl (any_of HT_.out (by kernel_rfl)) (fun _ _ _ h => h) (Or.inl ⟨by rfl, ?_⟩) ?_ ?_
          rotate_left
          ·intro w'
           go_simp
           with_reducible rfl
          rotate_left
          ·simp only [Act.put, sA, sZ, sS, i64_w, i32_w]
           rfl
          refine pure_ (i := 12) (N := some 32) (v := ?_) (a' := ?_) #[true, true, true, true, true, true, true, true, true, true, true, true, true] rfl rfl (any_of HT_.out (by kernel_rfl)) (fun _ _ _ h => h) (Or.inl ⟨by rfl, ?_⟩) ?_ ?_
          rotate_left
          ·intro w'
           go_simp
           with_reducible rfl
          rotate_left
          ·simp only [Act.put, sA, sZ, sS, i64_w, i32_w]
           rfl
          refine done_ (done_of HT_.out (by kernel_rfl)) ?_
          try go_wp2
          go_meet
          case rel => exact ⟨_, ((((rd_T53 l0 x12_1).f6) == 0)), (by first | rfl | (simp; done) | (simp [*]; done)), ⟨fun h_ => ⟨by (with_reducible repeat first | apply bN | apply bD | apply bA); exact (OB142.out h_).1, (OB142.out h_).2⟩⟩, H', ⟨by have := HK1.out; have := HK2.out; first | omega | exact Nat.le_refl _⟩, ⟨by (with_reducible repeat first | apply bN | apply bD | apply bA); exact BK145.out⟩, ⟨by (with_reducible repeat first | apply bN | apply bD | apply bA); exact BK146.out⟩, ⟨by repeat (first | (with_reducible first | exact HB.out | apply lA | apply lN | apply lD | refine lS ?_ GE145.out | refine lS ?_ GE146.out) | exact HB.out)⟩⟩
         ·rw [if_neg c16] at H
          have c16b0 : decide (x7_2 ≤ (ji15)) = false := decide_eq_false c16
          clear c16
          (first | rw [c16b0] | (simp only [i64_w, i32_w]; rw [c16b0]) | skip)
          have H' := aM H
          clear H
          try go_wp2
          have n0_ := aM (blk_drew BK145.out)
          have n1_ := aM (blk_drew BK146.out)
          have n2_ := aM (show (x700_1 = true → _ ∧ _) from fun h_ => ⟨blk_drew (o := .cells #[.int .i64 x701_1, .int .i64 x702_1, .int .i64 x703_1, .int .i64 x704_1] 84 (0, 0)) (OB142.out h_).1, (OB142.out h_).2⟩)
          have n3_ := aM (lD HB.out)
          clear BK145
          clear BK146
          clear OB142
          clear HB
          have BK145 := n0_
          have BK146 := n1_
          have OB142 := n2_
          have HB := n3_
          clear n0_ n1_ n2_ n3_
          refine start_ (n := 13) (S := fun w' => w'.cell? ⟨gb146, 0, none⟩ = some (.string ((rd_T53 l0 x12_1).f0)) ∧ w'.cell? ⟨gb146, 1, none⟩ = some (.int .i64 ((rd_T53 l0 x12_1).f1)) ∧ w'.cell? ⟨gb146, 2, none⟩ = some (.int .i64 ((rd_T53 l0 x12_1).f2)) ∧ w'.cell? ⟨gb146, 3, none⟩ = some (.int .i64 ((rd_T53 l0 x12_1).f3)) ∧ w'.cell? ⟨gb146, 4, none⟩ = some (.int .i64 ((rd_T53 l0 x12_1).f4.f0)) ∧ w'.cell? ⟨gb146, 5, none⟩ = some (.int .i64 ((rd_T53 l0 x12_1).f4.f1)) ∧ w'.cell? ⟨gb146, 6, none⟩ = some (.int .i64 ((rd_T53 l0 x12_1).f4.f2)) ∧ w'.cell? ⟨gb146, 7, none⟩ = some (.int .i64 ((rd_T53 l0 x12_1).f5.f0)) ∧ w'.cell? ⟨gb146, 8, none⟩ = some (.int .i64 ((rd_T53 l0 x12_1).f5.f1)) ∧ w'.cell? ⟨gb146, 9, none⟩ = some (.int .i64 ((rd_T53 l0 x12_1).f6)) ∧ w'.cell? ⟨gb146, 10, none⟩ = some (.string ((rd_T53 l0 x12_1).f7))) (ds := []) #[false, false, false, false, false, false, false, false, false, false, false, false, false] (by kernel_rfl) rfl rfl ⟨(blk_cell BK146.out 0).trans rfl, (blk_cell BK146.out 1).trans rfl, (blk_cell BK146.out 2).trans rfl, (blk_cell BK146.out 3).trans rfl, (blk_cell BK146.out 4).trans rfl, (blk_cell BK146.out 5).trans rfl, (blk_cell BK146.out 6).trans rfl, (blk_cell BK146.out 7).trans rfl, (blk_cell BK146.out 8).trans rfl, (blk_cell BK146.out 9).trans rfl, (blk_cell BK146.out 10).trans rfl⟩ (fun hHeld => ?_); refine with_tabW expand_Letter.tab7 expand_Letter.bits7 (fun HT_ HW_ => ?_)
          generalize wr.drew = w20 at BK145 BK146 OB142 HB hHeld ⊢
          refine pure_ (i := 0) (N := some 20) (v := ?_) (a' := ?_) #[true, false, false, false, false, false, false, false, false, false, false, false, false] rfl rfl (any_of HT_.out (by kernel_rfl)) (fun _ _ _ h => h) (Or.inl ⟨by rfl, ?_⟩) ?_ ?_
          rotate_left
          ·intro w'
           go_simp
           with_reducible rfl
          rotate_left
          ·simp only [Act.put, sA, sZ, sS, i64_w, i32_w]
           rfl
          refine take_ (i := 1) (N := some 21) (v := ?_) (a' := ?_) #[true, true, false, false, false, false, false, false, false, false, false, false, false] rfl rfl (take_ofW HT_.out HW_.out (by kernel_rfl)) (fun _ _ _ h => h) (Or.inl ⟨by rfl, ?_⟩) hHeld ?_ ?_
          rotate_left
          ·rintro w' ⟨s0, s1, s2, s3, s4, s5, s6, s7, s8, s9, s10⟩
           go_simp
           with_reducible rfl
          rotate_left
          ·simp only [Act.put, sA, sZ, sS, i64_w, i32_w]
           rfl
          refine take_ (i := 3) (N := some 23) (v := ?_) (a' := ?_) #[true, true, false, true, false, false, false, false, false, false, false, false, false] rfl rfl (take_ofW HT_.out HW_.out (by kernel_rfl)) (fun _ _ _ h => h) (Or.inl ⟨by rfl, ?_⟩) hHeld ?_ ?_
          rotate_left
          ·rintro w' ⟨s0, s1, s2, s3, s4, s5, s6, s7, s8, s9, s10⟩
           go_simp
           with_reducible rfl
          rotate_left
          ·simp only [Act.put, sA, sZ, sS, i64_w, i32_w]
           rfl
          refine one_ (i := 2) (N := some 22) #[true, true, true, true, false, false, false, false, false, false, false, false, false] rfl rfl (one_of HT_.out (by kernel_rfl)) (by decide) (fun K hK => ?_)
          refine goes_ Try.func53 (by kernel_rfl) rfl #[.agg #[.string ((rd_T53 l0 x12_1).f0), .int .i64 ((rd_T53 l0 x12_1).f1), .int .i64 ((rd_T53 l0 x12_1).f2), .int .i64 ((rd_T53 l0 x12_1).f3), .int .i64 ((rd_T53 l0 x12_1).f4.f0), .int .i64 ((rd_T53 l0 x12_1).f4.f1), .int .i64 ((rd_T53 l0 x12_1).f4.f2), .int .i64 ((rd_T53 l0 x12_1).f5.f0), .int .i64 ((rd_T53 l0 x12_1).f5.f1), .int .i64 ((rd_T53 l0 x12_1).f6), .string ((rd_T53 l0 x12_1).f7)]] (by rfl) rfl rfl (by (try simp only [List.map_toArray, List.map_cons, List.map_nil]); first | done | rfl | (simp only [List.length_drop, List.length_take]; rfl)) ?_
          with_reducible refine (expand_lasting_last.calls ((rd_T53 l0 x12_1).f0) ((rd_T53 l0 x12_1).f1) ((rd_T53 l0 x12_1).f2) ((rd_T53 l0 x12_1).f3) ((rd_T53 l0 x12_1).f4.f0) ((rd_T53 l0 x12_1).f4.f1) ((rd_T53 l0 x12_1).f4.f2) ((rd_T53 l0 x12_1).f5.f0) ((rd_T53 l0 x12_1).f5.f1) ((rd_T53 l0 x12_1).f6) ((rd_T53 l0 x12_1).f7) t148 _ A13.out).mono ?_
          rintro e w21 ⟨rfl, hb⟩
          refine ⟨_, rfl, ?_⟩
          have n0_ := aM (blk_below (bX BK145.out) hb)
          have n1_ := aM (blk_below (bX BK146.out) hb)
          have n2_ := aM (show (x700_1 = true → _ ∧ _) from fun h_ => ⟨blk_below (o := .cells #[.int .i64 x701_1, .int .i64 x702_1, .int .i64 x703_1, .int .i64 x704_1] 84 (0, 0)) (by (with_reducible repeat first | apply bN | apply bD | apply bA); exact (OB142.out h_).1) hb, (OB142.out h_).2⟩)
          have n3_ := aM (below_step (by repeat (first | (with_reducible first | exact HB.out | apply lA | apply lN | apply lD | refine lS ?_ GE145.out | refine lS ?_ GE146.out) | exact HB.out)) hb)
          clear BK145
          clear BK146
          clear OB142
          clear HB
          have BK145 := n0_
          have BK146 := n1_
          have OB142 := n2_
          have HB := n3_
          clear n0_ n1_ n2_ n3_
          (try clear hb)
          (try clear hb2)
          (try clear hk)
          (try clear hi)
          refine hK.out _ _ ⟨(blk_cell BK146.out 0).trans rfl, (blk_cell BK146.out 1).trans rfl, (blk_cell BK146.out 2).trans rfl, (blk_cell BK146.out 3).trans rfl, (blk_cell BK146.out 4).trans rfl, (blk_cell BK146.out 5).trans rfl, (blk_cell BK146.out 6).trans rfl, (blk_cell BK146.out 7).trans rfl, (blk_cell BK146.out 8).trans rfl, (blk_cell BK146.out 9).trans rfl, (blk_cell BK146.out 10).trans rfl⟩ (fun hHeld => ?_)
          clear hK K
          refine norm_ (a' := ?_) ?_ ?_
          rotate_left
          ·show Act.put _ (some 22) _ = _
           simp only [Act.put, sA, sZ, sS, i64_w, i32_w]
           rfl
          refine one_ (i := 4) (N := some 24) #[true, true, true, true, true, false, false, false, false, false, false, false, false] rfl rfl (one_of HT_.out (by kernel_rfl)) (by decide) (fun K hK => ?_)
          refine goes_ Try.func52 (by kernel_rfl) rfl #[.agg #[.string ((rd_T53 l0 x12_1).f0), .int .i64 ((rd_T53 l0 x12_1).f1), .int .i64 ((rd_T53 l0 x12_1).f2), .int .i64 ((rd_T53 l0 x12_1).f3), .int .i64 ((rd_T53 l0 x12_1).f4.f0), .int .i64 ((rd_T53 l0 x12_1).f4.f1), .int .i64 ((rd_T53 l0 x12_1).f4.f2), .int .i64 ((rd_T53 l0 x12_1).f5.f0), .int .i64 ((rd_T53 l0 x12_1).f5.f1), .int .i64 ((rd_T53 l0 x12_1).f6), .string ((rd_T53 l0 x12_1).f7)]] (by rfl) rfl rfl (by (try simp only [List.map_toArray, List.map_cons, List.map_nil]); first | done | rfl | (simp only [List.length_drop, List.length_take]; rfl)) ?_
          with_reducible refine (expand_lasting_first.calls ((rd_T53 l0 x12_1).f0) ((rd_T53 l0 x12_1).f1) ((rd_T53 l0 x12_1).f2) ((rd_T53 l0 x12_1).f3) ((rd_T53 l0 x12_1).f4.f0) ((rd_T53 l0 x12_1).f4.f1) ((rd_T53 l0 x12_1).f4.f2) ((rd_T53 l0 x12_1).f5.f0) ((rd_T53 l0 x12_1).f5.f1) ((rd_T53 l0 x12_1).f6) ((rd_T53 l0 x12_1).f7) t149 _ A14.out).mono ?_
          rintro e w22 ⟨rfl, hb⟩
          refine ⟨_, rfl, ?_⟩
          have n0_ := aM (blk_below (bX BK145.out) hb)
          have n1_ := aM (blk_below (bX BK146.out) hb)
          have n2_ := aM (show (x700_1 = true → _ ∧ _) from fun h_ => ⟨blk_below (o := .cells #[.int .i64 x701_1, .int .i64 x702_1, .int .i64 x703_1, .int .i64 x704_1] 84 (0, 0)) (by (with_reducible repeat first | apply bN | apply bD | apply bA); exact (OB142.out h_).1) hb, (OB142.out h_).2⟩)
          have n3_ := aM (below_step (by repeat (first | (with_reducible first | exact HB.out | apply lA | apply lN | apply lD | refine lS ?_ GE145.out | refine lS ?_ GE146.out) | exact HB.out)) hb)
          clear BK145
          clear BK146
          clear OB142
          clear HB
          have BK145 := n0_
          have BK146 := n1_
          have OB142 := n2_
          have HB := n3_
          clear n0_ n1_ n2_ n3_
          (try clear hb)
          (try clear hb2)
          (try clear hk)
          (try clear hi)
          refine hK.out _ _ ⟨(blk_cell BK146.out 0).trans rfl, (blk_cell BK146.out 1).trans rfl, (blk_cell BK146.out 2).trans rfl, (blk_cell BK146.out 3).trans rfl, (blk_cell BK146.out 4).trans rfl, (blk_cell BK146.out 5).trans rfl, (blk_cell BK146.out 6).trans rfl, (blk_cell BK146.out 7).trans rfl, (blk_cell BK146.out 8).trans rfl, (blk_cell BK146.out 9).trans rfl, (blk_cell BK146.out 10).trans rfl⟩ (fun hHeld => ?_)
          clear hK K
          refine norm_ (a' := ?_) ?_ ?_
          rotate_left
          ·show Act.put _ (some 24) _ = _
           simp only [Act.put, sA, sZ, sS, i64_w, i32_w]
           rfl
          refine pure_ (i := 5) (N := some 25) (v := ?_) (a' := ?_) #[true, true, true, true, true, true, false, false, false, false, false, false, false] rfl rfl (any_of HT_.out (by kernel_rfl)) (fun _ _ _ h => h) (Or.inl ⟨by rfl, ?_⟩) ?_ ?_
          rotate_left
          ·intro w'
           go_simp
           with_reducible rfl
          rotate_left
          ·simp only [Act.put, sA, sZ, sS, i64_w, i32_w]
           rfl
          refine pure_ (i := 6) (N := some 26) (v := ?_) (a' := ?_) #[true, true, true, true, true, true, true, false, false, false, false, false, false] rfl rfl (any_of HT_.out (by kernel_rfl)) (fun _ _ _ h => h) (Or.inl ⟨by rfl, ?_⟩) ?_ ?_
          rotate_left
          ·intro w'
           go_simp
           with_reducible rfl
          rotate_left
          ·simp only [Act.put, sA, sZ, sS, i64_w, i32_w]
           rfl
          refine pure_ (i := 7) (N := some 27) (v := ?_) (a' := ?_) #[true, true, true, true, true, true, true, true, false, false, false, false, false] rfl rfl (any_of HT_.out (by kernel_rfl)) (fun _ _ _ h => h) (Or.inl ⟨by rfl, ?_⟩) ?_ ?_
          rotate_left
          ·intro w'
           go_simp
           with_reducible rfl
          rotate_left
          ·simp only [Act.put, sA, sZ, sS, i64_w, i32_w]
           rfl
          refine pure_ (i := 8) (N := some 28) (v := ?_) (a' := ?_) #[true, true, true, true, true, true, true, true, true, false, false, false, false] rfl rfl (any_of HT_.out (by kernel_rfl)) (fun _ _ _ h => h) (Or.inl ⟨by rfl, ?_⟩) ?_ ?_
          rotate_left
          ·intro w'
           go_simp
           with_reducible rfl
          rotate_left
          ·simp only [Act.put, sA, sZ, sS, i64_w, i32_w]
           rfl
          refine pure_ (i := 9) (N := some 29) (v := undef) (a' := ?_) #[true, true, true, true, true, true, true, true, true, true, false, false, false] rfl rfl (any_of HT_.out (by kernel_rfl)) (fun _ _ _ h => h) (Or.inr ⟨by rfl, rfl⟩) ?_ ?_
          rotate_left
          ·simp only [Act.put, sA, sZ, sS, i64_w, i32_w]
           rfl
          refine pure_ (i := 10) (N := some 30) (v := undef) (a' := ?_) #[true, true, true, true, true, true, true, true, true, true, true, false, false] rfl rfl (any_of HT_.out (by kernel_rfl)) (fun _ _ _ h => h) (Or.inr ⟨by rfl, rfl⟩) ?_ ?_
          rotate_left
          ·simp only [Act.put, sA, sZ, sS, i64_w, i32_w]
           rfl
          refine pure_ (i := 11) (N := some 31) (v := undef) (a' := ?_) #[true, true, true, true, true, true, true, true, true, true, true, true, false] rfl rfl (any_of HT_.out (by kernel_rfl)) (fun _ _ _ h => h) (Or.inr ⟨by rfl, rfl⟩) ?_ ?_
          rotate_left
          ·simp only [Act.put, sA, sZ, sS, i64_w, i32_w]
           rfl
          refine pure_ (i := 12) (N := some 32) (v := ?_) (a' := ?_) #[true, true, true, true, true, true, true, true, true, true, true, true, true] rfl rfl (any_of HT_.out (by kernel_rfl)) (fun _ _ _ h => h) (Or.inl ⟨by rfl, ?_⟩) ?_ ?_
          rotate_left
          ·intro w'
           go_simp
           with_reducible rfl
          rotate_left
          ·simp only [Act.put, sA, sZ, sS, i64_w, i32_w]
           rfl
          refine done_ (done_of HT_.out (by kernel_rfl)) ?_
          try go_wp2
          go_meet
          case rel => exact ⟨_, (false), (by first | rfl | (simp; done) | (simp [*]; done)), ⟨fun h_ => ⟨by (with_reducible repeat first | apply bN | apply bD | apply bA); exact (OB142.out h_).1, (OB142.out h_).2⟩⟩, H', ⟨by have := HK1.out; have := HK2.out; first | omega | exact Nat.le_refl _⟩, ⟨by (with_reducible repeat first | apply bN | apply bD | apply bA); exact BK145.out⟩, ⟨by (with_reducible repeat first | apply bN | apply bD | apply bA); exact BK146.out⟩, ⟨by repeat (first | (with_reducible first | exact HB.out | apply lA | apply lN | apply lD | refine lS ?_ GE145.out | refine lS ?_ GE146.out) | exact HB.out)⟩⟩
        case rest =>
         clear HC12
         try clear c1; try clear p1; try clear q1; try clear hx1; try clear c2; try clear c2b0; try clear p2; try clear c3; try clear c3b0; try clear c4; try clear c4b0; try clear c5; try clear p6; try clear c9; try clear p14; try clear q14; try clear hx14; try clear c16; try clear c16b0; try clear hcz10_0; try clear hcz10_1; try clear hcz10_10; try clear hcz10_2; try clear hcz10_3; try clear hcz10_4; try clear hcz10_5; try clear hcz10_6; try clear hcz10_7; try clear hcz10_8; try clear hcz10_9; try clear hcz7_0; try clear hcz7_1; try clear hcz7_10; try clear hcz7_2; try clear hcz7_3; try clear hcz7_4; try clear hcz7_5; try clear hcz7_6; try clear hcz7_7; try clear hcz7_8; try clear hcz7_9; try clear hfz10_0; try clear hfz10_1; try clear hfz10_10; try clear hfz10_2; try clear hfz10_3; try clear hfz10_4; try clear hfz10_5; try clear hfz10_6; try clear hfz10_7; try clear hfz10_8; try clear hfz10_9; try clear hfz7_0; try clear hfz7_1; try clear hfz7_10; try clear hfz7_2; try clear hfz7_3; try clear hfz7_4; try clear hfz7_5; try clear hfz7_6; try clear hfz7_7; try clear hfz7_8; try clear hfz7_9; try clear hx144_0; try clear hx144_1; try clear hx144_10; try clear hx144_2; try clear hx144_3; try clear hx144_4; try clear hx144_5; try clear hx144_6; try clear hx144_7; try clear hx144_8; try clear hx144_9; try clear p1; try clear p144; try clear p2; try clear q1; try clear q144
         obtain ⟨kq, x32_11, rfl, OB142, HA, HJ11, BK145, BK146, HB⟩ := hcut
         cases kq with
         | zero => exact absurd HA.out (by simp [expand_Letter.j2])
         | succ kj11 =>
          have H := HA.out
          clear HA
          simp only [expand_Letter.j2] at H
          by_cases c23 : x32_11 = true
          ·subst c23
           have H1 : ((expand_lasting_fire.f kj11 ((rd_T53 l0 x12_1).f0) ((rd_T53 l0 x12_1).f1) ((rd_T53 l0 x12_1).f2) ((rd_T53 l0 x12_1).f3) ((rd_T53 l0 x12_1).f4.f0) ((rd_T53 l0 x12_1).f4.f1) ((rd_T53 l0 x12_1).f4.f2) ((rd_T53 l0 x12_1).f5.f0) ((rd_T53 l0 x12_1).f5.f1) ((rd_T53 l0 x12_1).f6) ((rd_T53 l0 x12_1).f7) x12_1 x7_2).bind fun bt150 => (if bt150.2.2.2.2 = true then (if x700_1 = true then ((expand_order.f kj11 bt150.1 bt150.2.1 bt150.2.2.1 bt150.2.2.2.1 x701_1 x702_1 x703_1 x704_1).bind fun t156 => (if t156 < 0 then (expand_Letter.l0 kj11 l0 l0 (l0.length : Int) (wrap64 (x12_1 + 1)) true bt150.1 bt150.2.1 bt150.2.2.1 bt150.2.2.2.1) else (expand_Letter.l0 kj11 l0 l0 (l0.length : Int) (wrap64 (x12_1 + 1)) true x701_1 x702_1 x703_1 x704_1))) else (expand_Letter.l0 kj11 l0 l0 (l0.length : Int) (wrap64 (x12_1 + 1)) true bt150.1 bt150.2.1 bt150.2.2.1 bt150.2.2.2.1)) else (expand_Letter.l1 kj11 l0 x12_1 (wrap64 (x7_2 + 1)) l0 (l0.length : Int) x12_1 x700_1 x701_1 x702_1 x703_1 x704_1 ((rd_T53 l0 x12_1).f0) ((rd_T53 l0 x12_1).f1) ((rd_T53 l0 x12_1).f2) ((rd_T53 l0 x12_1).f3) ((rd_T53 l0 x12_1).f4.f0) ((rd_T53 l0 x12_1).f4.f1) ((rd_T53 l0 x12_1).f4.f2) ((rd_T53 l0 x12_1).f5.f0) ((rd_T53 l0 x12_1).f5.f1) ((rd_T53 l0 x12_1).f6) ((rd_T53 l0 x12_1).f7) ((rd_T53 l0 x12_1).f0) ((rd_T53 l0 x12_1).f1) ((rd_T53 l0 x12_1).f2) ((rd_T53 l0 x12_1).f3) ((rd_T53 l0 x12_1).f4.f0) ((rd_T53 l0 x12_1).f4.f1) ((rd_T53 l0 x12_1).f4.f2) ((rd_T53 l0 x12_1).f5.f0) ((rd_T53 l0 x12_1).f5.f1) ((rd_T53 l0 x12_1).f6) ((rd_T53 l0 x12_1).f7)))) = some r := by rw [if_pos rfl] at H; exact H
           clear H
           have H := H1
           clear H1
           replace H := Option.bind_eq_some_iff.mp H
           obtain ⟨⟨t150, t151, t152, t153, t154⟩, A240, H⟩ := H
           replace H : (if t154 = true then (if x700_1 = true then ((expand_order.f kj11 t150 t151 t152 t153 x701_1 x702_1 x703_1 x704_1).bind fun t156 => (if t156 < 0 then (expand_Letter.l0 kj11 l0 l0 (l0.length : Int) (wrap64 (x12_1 + 1)) true t150 t151 t152 t153) else (expand_Letter.l0 kj11 l0 l0 (l0.length : Int) (wrap64 (x12_1 + 1)) true x701_1 x702_1 x703_1 x704_1))) else (expand_Letter.l0 kj11 l0 l0 (l0.length : Int) (wrap64 (x12_1 + 1)) true t150 t151 t152 t153)) else (expand_Letter.l1 kj11 l0 x12_1 (wrap64 (x7_2 + 1)) l0 (l0.length : Int) x12_1 x700_1 x701_1 x702_1 x703_1 x704_1 ((rd_T53 l0 x12_1).f0) ((rd_T53 l0 x12_1).f1) ((rd_T53 l0 x12_1).f2) ((rd_T53 l0 x12_1).f3) ((rd_T53 l0 x12_1).f4.f0) ((rd_T53 l0 x12_1).f4.f1) ((rd_T53 l0 x12_1).f4.f2) ((rd_T53 l0 x12_1).f5.f0) ((rd_T53 l0 x12_1).f5.f1) ((rd_T53 l0 x12_1).f6) ((rd_T53 l0 x12_1).f7) ((rd_T53 l0 x12_1).f0) ((rd_T53 l0 x12_1).f1) ((rd_T53 l0 x12_1).f2) ((rd_T53 l0 x12_1).f3) ((rd_T53 l0 x12_1).f4.f0) ((rd_T53 l0 x12_1).f4.f1) ((rd_T53 l0 x12_1).f4.f2) ((rd_T53 l0 x12_1).f5.f0) ((rd_T53 l0 x12_1).f5.f1) ((rd_T53 l0 x12_1).f6) ((rd_T53 l0 x12_1).f7))) = some r := H
           have A24 := aM A240
           clear A240
           by_cases c25 : t154 = true
           ·subst c25
            have H1 : (if x700_1 = true then ((expand_order.f kj11 t150 t151 t152 t153 x701_1 x702_1 x703_1 x704_1).bind fun t156 => (if t156 < 0 then (expand_Letter.l0 kj11 l0 l0 (l0.length : Int) (wrap64 (x12_1 + 1)) true t150 t151 t152 t153) else (expand_Letter.l0 kj11 l0 l0 (l0.length : Int) (wrap64 (x12_1 + 1)) true x701_1 x702_1 x703_1 x704_1))) else (expand_Letter.l0 kj11 l0 l0 (l0.length : Int) (wrap64 (x12_1 + 1)) true t150 t151 t152 t153)) = some r := by rw [if_pos rfl] at H; exact H
            clear H
            have H := H1
            clear H1
            by_cases c26 : x700_1 = true
            ·subst c26
             have H1 : ((expand_order.f kj11 t150 t151 t152 t153 x701_1 x702_1 x703_1 x704_1).bind fun t156 => (if t156 < 0 then (expand_Letter.l0 kj11 l0 l0 (l0.length : Int) (wrap64 (x12_1 + 1)) true t150 t151 t152 t153) else (expand_Letter.l0 kj11 l0 l0 (l0.length : Int) (wrap64 (x12_1 + 1)) true x701_1 x702_1 x703_1 x704_1))) = some r := by rw [if_pos rfl] at H; exact H
             clear H
             have H := H1
             clear H1
             try simp only [optP_true, optP_false]
             have BK142 := aM (OB142.out rfl).1
             have GW142 := aM (OB142.out rfl).2
             have GE142 := GW142
             (try have NB142_145 := aM (NO142_145.out rfl))
             (try have NB145_142 := aM (Ne.symm (NO142_145.out rfl)))
             (try have NB142_146 := aM (NO142_146.out rfl))
             (try have NB146_142 := aM (Ne.symm (NO142_146.out rfl)))
             clear OB142
             replace H := Option.bind_eq_some_iff.mp H
             obtain ⟨t156, A270, H⟩ := H
             replace H : (if t156 < 0 then (expand_Letter.l0 kj11 l0 l0 (l0.length : Int) (wrap64 (x12_1 + 1)) true t150 t151 t152 t153) else (expand_Letter.l0 kj11 l0 l0 (l0.length : Int) (wrap64 (x12_1 + 1)) true x701_1 x702_1 x703_1 x704_1)) = some r := H
             have A27 := aM A270
             clear A270
             by_cases c28 : t156 < 0
             ·rw [if_pos c28] at H
              have c28b0 : decide (t156 < 0) = true := decide_eq_true c28
              clear c28
              have H' := aM H
              clear H
              have hnb29 := NB146_145.out
              have hnc29 := NB145_146.out
              have hnb30 := NB146_142.out
              have hnc30 := NB142_146.out
              obtain ⟨hcz31_0, hcz31_1, hcz31_2, hcz31_3, hcz31_4, hcz31_5, hcz31_6, hcz31_7, hcz31_8, hcz31_9, hcz31_10⟩ := blkC11 BK146.out
              obtain ⟨hfz31_0, hfz31_1, hfz31_2, hfz31_3, hfz31_4, hfz31_5, hfz31_6, hfz31_7, hfz31_8, hfz31_9, hfz31_10⟩ := blkF11 BK146.out
              try go_wp2_with (first | ((with_reducible refine gate_callee (f := 54) rfl ?_); refine goesL_ (some 39) rfl rfl Try.func54 (by kernel_rfl) rfl #[.agg #[.string ((rd_T53 l0 x12_1).f0), .int .i64 ((rd_T53 l0 x12_1).f1), .int .i64 ((rd_T53 l0 x12_1).f2), .int .i64 ((rd_T53 l0 x12_1).f3), .int .i64 ((rd_T53 l0 x12_1).f4.f0), .int .i64 ((rd_T53 l0 x12_1).f4.f1), .int .i64 ((rd_T53 l0 x12_1).f4.f2), .int .i64 ((rd_T53 l0 x12_1).f5.f0), .int .i64 ((rd_T53 l0 x12_1).f5.f1), .int .i64 ((rd_T53 l0 x12_1).f6), .string ((rd_T53 l0 x12_1).f7)], .int .i64 x12_1, .int .i64 x7_2] rfl (by (try simp only [List.map_toArray, List.map_cons, List.map_nil]); first | done | rfl | (simp only [List.length_drop, List.length_take]; rfl)) ?_; (with_reducible refine (expand_lasting_fire.calls kj11 ((rd_T53 l0 x12_1).f0) ((rd_T53 l0 x12_1).f1) ((rd_T53 l0 x12_1).f2) ((rd_T53 l0 x12_1).f3) ((rd_T53 l0 x12_1).f4.f0) ((rd_T53 l0 x12_1).f4.f1) ((rd_T53 l0 x12_1).f4.f2) ((rd_T53 l0 x12_1).f5.f0) ((rd_T53 l0 x12_1).f5.f1) ((rd_T53 l0 x12_1).f6) ((rd_T53 l0 x12_1).f7) x12_1 x7_2 t150 t151 t152 t153 true _ A24.out).mono ?_); rintro e w32 ⟨rfl, hb⟩; refine ⟨_, rfl, ?_⟩; have n0_ := aM (blk_below (bX BK145.out) hb); have n1_ := aM (blk_below (bX BK146.out) hb); have n2_ := aM (blk_below (bX BK142.out) hb); have n3_ := aM (below_step (by repeat (first | (with_reducible first | exact HB.out | apply lA | apply lN | apply lD | refine lS ?_ GE145.out | refine lS ?_ GE146.out | refine lS ?_ GE142.out) | exact HB.out)) hb); clear BK145; clear BK146; clear BK142; clear HB; have BK145 := n0_; have BK146 := n1_; have BK142 := n2_; have HB := n3_; clear n0_ n1_ n2_ n3_; (try clear hb); (try clear hb2); (try clear hk); (try clear hi)) | ((with_reducible refine gate_dst (N := 8) rfl ?_); refine box_event ?hg (N := 8) ?hd (cs := #[.int .i64 0, .int .i64 0, .int .i64 0, .int .i64 0]) (t := 84) ?hr ?_; (case hd => rfl); (case hg => rfl); (case hr => first | (go_simp; done) | (go_simp; rfl)); intro gb155 hg w33 hbox hb; have n0_ := aM (blk_below (bX BK145.out) hb); have n1_ := aM (blk_below (bX BK146.out) hb); have n2_ := aM (blk_below (bX BK142.out) hb); have n3_ := aM (below_step (by repeat (first | (with_reducible first | exact HB.out | apply lA | apply lN | apply lD | refine lS ?_ GE145.out | refine lS ?_ GE146.out | refine lS ?_ GE142.out) | exact HB.out)) hb); have n4_ := aM (hbox); have n5_ := aM ((by rw [hg]; exact (below_size (by repeat (first | (with_reducible first | exact HB.out | apply lA | apply lN | apply lD | refine lS ?_ GE145.out | refine lS ?_ GE146.out | refine lS ?_ GE142.out) | exact HB.out))) : w.heap.size ≤ gb155)); have n6_ := aM ((by rw [hg]; exact (below_size (by repeat (first | (with_reducible first | exact HB.out | apply lA | apply lN | apply lD | refine lS ?_ GE145.out | refine lS ?_ GE146.out | refine lS ?_ GE142.out) | exact HB.out))) : w.heap.size ≤ gb155)); have n7_ := aM ((by rw [hg]; exact Nat.ne_of_lt (blk_lt (bX BK145.out)) : gb145 ≠ gb155)); have n8_ := aM ((by rw [hg]; exact Nat.ne_of_gt (blk_lt (bX BK145.out)) : gb155 ≠ gb145)); have n9_ := aM ((by rw [hg]; exact Nat.ne_of_lt (blk_lt (bX BK146.out)) : gb146 ≠ gb155)); have n10_ := aM ((by rw [hg]; exact Nat.ne_of_gt (blk_lt (bX BK146.out)) : gb155 ≠ gb146)); have n11_ := aM ((by rw [hg]; exact Nat.ne_of_lt (blk_lt (bX BK142.out)) : go3_1 ≠ gb155)); have n12_ := aM ((by rw [hg]; exact Nat.ne_of_gt (blk_lt (bX BK142.out)) : gb155 ≠ go3_1)); clear BK145; clear BK146; clear BK142; clear HB; have BK145 := n0_; have BK146 := n1_; have BK142 := n2_; have HB := n3_; have BK155 := n4_; have GW155 := n5_; have GE155 := n6_; have NB145_155 := n7_; have NB155_145 := n8_; have NB146_155 := n9_; have NB155_146 := n10_; have NB142_155 := n11_; have NB155_142 := n12_; clear n0_ n1_ n2_ n3_ n4_ n5_ n6_ n7_ n8_ n9_ n10_ n11_ n12_; clear hb hbox hg; have hnb34 := NB155_145.out; have hnc34 := NB145_155.out; have hnb35 := NB155_146.out; have hnc35 := NB146_155.out; have hnb36 := NB155_142.out; have hnc36 := NB142_155.out; obtain ⟨hcz37_0, hcz37_1, hcz37_2, hcz37_3⟩ := blkC4 BK155.out; obtain ⟨hfz37_0, hfz37_1, hfz37_2, hfz37_3⟩ := blkF4 BK155.out))
              have n0_ : Aside0 (((((w33.setCell ⟨gb155, 0, none⟩ (.int .i64 t150)).setCell ⟨gb155, 1, none⟩ (.int .i64 t151)).setCell ⟨gb155, 2, none⟩ (.int .i64 t152)).setCell ⟨gb155, 3, none⟩ (.int .i64 t153)).heap[gb145]? = some (.cells #[.string ((rd_T53 l0 x12_1).f0), .int .i64 ((rd_T53 l0 x12_1).f1), .int .i64 ((rd_T53 l0 x12_1).f2), .int .i64 ((rd_T53 l0 x12_1).f3), .int .i64 ((rd_T53 l0 x12_1).f4.f0), .int .i64 ((rd_T53 l0 x12_1).f4.f1), .int .i64 ((rd_T53 l0 x12_1).f4.f2), .int .i64 ((rd_T53 l0 x12_1).f5.f0), .int .i64 ((rd_T53 l0 x12_1).f5.f1), .int .i64 ((rd_T53 l0 x12_1).f6), .string ((rd_T53 l0 x12_1).f7)] 53 (0, 0))) := ⟨by (with_reducible repeat first | apply bN | apply bD | apply bA); refine blk_far ?_ NB145_155.out _; (with_reducible repeat first | apply bN | apply bD | apply bA); refine blk_far ?_ NB145_155.out _; (with_reducible repeat first | apply bN | apply bD | apply bA); refine blk_far ?_ NB145_155.out _; (with_reducible repeat first | apply bN | apply bD | apply bA); refine blk_far ?_ NB145_155.out _; (with_reducible repeat first | apply bN | apply bD | apply bA); exact BK145.out⟩
              have n1_ : Aside0 (((((w33.setCell ⟨gb155, 0, none⟩ (.int .i64 t150)).setCell ⟨gb155, 1, none⟩ (.int .i64 t151)).setCell ⟨gb155, 2, none⟩ (.int .i64 t152)).setCell ⟨gb155, 3, none⟩ (.int .i64 t153)).heap[gb146]? = some (.cells #[.string ((rd_T53 l0 x12_1).f0), .int .i64 ((rd_T53 l0 x12_1).f1), .int .i64 ((rd_T53 l0 x12_1).f2), .int .i64 ((rd_T53 l0 x12_1).f3), .int .i64 ((rd_T53 l0 x12_1).f4.f0), .int .i64 ((rd_T53 l0 x12_1).f4.f1), .int .i64 ((rd_T53 l0 x12_1).f4.f2), .int .i64 ((rd_T53 l0 x12_1).f5.f0), .int .i64 ((rd_T53 l0 x12_1).f5.f1), .int .i64 ((rd_T53 l0 x12_1).f6), .string ((rd_T53 l0 x12_1).f7)] 96 (0, 0))) := ⟨by (with_reducible repeat first | apply bN | apply bD | apply bA); refine blk_far ?_ NB146_155.out _; (with_reducible repeat first | apply bN | apply bD | apply bA); refine blk_far ?_ NB146_155.out _; (with_reducible repeat first | apply bN | apply bD | apply bA); refine blk_far ?_ NB146_155.out _; (with_reducible repeat first | apply bN | apply bD | apply bA); refine blk_far ?_ NB146_155.out _; (with_reducible repeat first | apply bN | apply bD | apply bA); exact BK146.out⟩
              have n2_ : Aside0 (((((w33.setCell ⟨gb155, 0, none⟩ (.int .i64 t150)).setCell ⟨gb155, 1, none⟩ (.int .i64 t151)).setCell ⟨gb155, 2, none⟩ (.int .i64 t152)).setCell ⟨gb155, 3, none⟩ (.int .i64 t153)).heap[go3_1]? = some (.cells #[.int .i64 x701_1, .int .i64 x702_1, .int .i64 x703_1, .int .i64 x704_1] 84 (0, 0))) := ⟨by (with_reducible repeat first | apply bN | apply bD | apply bA); refine blk_far ?_ NB142_155.out _; (with_reducible repeat first | apply bN | apply bD | apply bA); refine blk_far ?_ NB142_155.out _; (with_reducible repeat first | apply bN | apply bD | apply bA); refine blk_far ?_ NB142_155.out _; (with_reducible repeat first | apply bN | apply bD | apply bA); refine blk_far ?_ NB142_155.out _; (with_reducible repeat first | apply bN | apply bD | apply bA); exact BK142.out⟩
              have n3_ : Aside0 (((((w33.setCell ⟨gb155, 0, none⟩ (.int .i64 t150)).setCell ⟨gb155, 1, none⟩ (.int .i64 t151)).setCell ⟨gb155, 2, none⟩ (.int .i64 t152)).setCell ⟨gb155, 3, none⟩ (.int .i64 t153)).heap[gb155]? = some (.cells #[.int .i64 t150, .int .i64 t151, .int .i64 t152, .int .i64 t153] 84 (0, 0))) := ⟨by (with_reducible repeat first | apply bN | apply bD | apply bA); refine blk_put (cs := #[.int .i64 t150, .int .i64 t151, .int .i64 t152, .int .i64 0]) ?_ 3 _ rfl; (with_reducible repeat first | apply bN | apply bD | apply bA); refine blk_put (cs := #[.int .i64 t150, .int .i64 t151, .int .i64 0, .int .i64 0]) ?_ 2 _ rfl; (with_reducible repeat first | apply bN | apply bD | apply bA); refine blk_put (cs := #[.int .i64 t150, .int .i64 0, .int .i64 0, .int .i64 0]) ?_ 1 _ rfl; (with_reducible repeat first | apply bN | apply bD | apply bA); refine blk_put (cs := #[.int .i64 0, .int .i64 0, .int .i64 0, .int .i64 0]) ?_ 0 _ rfl; (with_reducible repeat first | apply bN | apply bD | apply bA); exact BK155.out⟩
              have n4_ : Aside0 (Below w.heap.size w ((((w33.setCell ⟨gb155, 0, none⟩ (.int .i64 t150)).setCell ⟨gb155, 1, none⟩ (.int .i64 t151)).setCell ⟨gb155, 2, none⟩ (.int .i64 t152)).setCell ⟨gb155, 3, none⟩ (.int .i64 t153))) := ⟨by repeat (first | (with_reducible first | exact HB.out | apply lA | apply lN | apply lD | refine lS ?_ GE145.out | refine lS ?_ GE146.out | refine lS ?_ GE142.out | refine lS ?_ GE155.out) | exact HB.out)⟩
              (try clear BK145)
              (try clear BK146)
              (try clear BK142)
              (try clear BK155)
              (try clear HB)
              generalize ((((w33.setCell ⟨gb155, 0, none⟩ (.int .i64 t150)).setCell ⟨gb155, 1, none⟩ (.int .i64 t151)).setCell ⟨gb155, 2, none⟩ (.int .i64 t152)).setCell ⟨gb155, 3, none⟩ (.int .i64 t153)) = w38 at n0_ n1_ n2_ n3_ n4_ ⊢
              have BK145 := n0_
              have BK146 := n1_
              have BK142 := n2_
              have BK155 := n3_
              have HB := n4_
              clear n0_ n1_ n2_ n3_ n4_
              have n0_ := aM (blk_drew BK145.out)
              have n1_ := aM (blk_drew BK146.out)
              have n2_ := aM (blk_drew BK142.out)
              have n3_ := aM (blk_drew BK155.out)
              have n4_ := aM (lD HB.out)
              clear BK145
              clear BK146
              clear BK142
              clear BK155
              clear HB
              have BK145 := n0_
              have BK146 := n1_
              have BK142 := n2_
              have BK155 := n3_
              have HB := n4_
              clear n0_ n1_ n2_ n3_ n4_
              refine start_ (n := 10) (S := fun w' => w'.cell? ⟨gb155, 0, none⟩ = some (.int .i64 t150) ∧ w'.cell? ⟨gb155, 1, none⟩ = some (.int .i64 t151) ∧ w'.cell? ⟨gb155, 2, none⟩ = some (.int .i64 t152) ∧ w'.cell? ⟨gb155, 3, none⟩ = some (.int .i64 t153) ∧ w'.cell? ⟨go3_1, 0, none⟩ = some (.int .i64 x701_1) ∧ w'.cell? ⟨go3_1, 1, none⟩ = some (.int .i64 x702_1) ∧ w'.cell? ⟨go3_1, 2, none⟩ = some (.int .i64 x703_1) ∧ w'.cell? ⟨go3_1, 3, none⟩ = some (.int .i64 x704_1)) (ds := []) #[false, false, false, false, false, false, false, false, false, false] (by kernel_rfl) rfl rfl ⟨(blk_cell BK155.out 0).trans rfl, (blk_cell BK155.out 1).trans rfl, (blk_cell BK155.out 2).trans rfl, (blk_cell BK155.out 3).trans rfl, (blk_cell BK142.out 0).trans rfl, (blk_cell BK142.out 1).trans rfl, (blk_cell BK142.out 2).trans rfl, (blk_cell BK142.out 3).trans rfl⟩ (fun hHeld => ?_); refine with_tabW expand_Letter.tab11 expand_Letter.bits11 (fun HT_ HW_ => ?_)
              generalize w38.drew = w39 at BK145 BK146 BK142 BK155 HB hHeld ⊢
              refine pure_ (i := 0) (N := some 44) (v := ?_) (a' := ?_) #[true, false, false, false, false, false, false, false, false, false] rfl rfl (any_of HT_.out (by kernel_rfl)) (fun _ _ _ h => h) (Or.inl ⟨by rfl, ?_⟩) ?_ ?_
              rotate_left
              ·intro w'
               go_simp
               with_reducible rfl
              rotate_left
              ·simp only [Act.put, sA, sZ, sS, i64_w, i32_w]
               rfl
              refine pure_ (i := 1) (N := some 45) (v := ?_) (a' := ?_) #[true, true, false, false, false, false, false, false, false, false] rfl rfl (any_of HT_.out (by kernel_rfl)) (fun _ _ _ h => h) (Or.inl ⟨by rfl, ?_⟩) ?_ ?_
              rotate_left
              ·intro w'
               go_simp
               with_reducible rfl
              rotate_left
              ·simp only [Act.put, sA, sZ, sS, i64_w, i32_w]
               rfl
              refine pure_ (i := 2) (N := some 46) (v := ?_) (a' := ?_) #[true, true, true, false, false, false, false, false, false, false] rfl rfl (any_of HT_.out (by kernel_rfl)) (fun _ _ _ h => h) (Or.inl ⟨by rfl, ?_⟩) ?_ ?_
              rotate_left
              ·intro w'
               go_simp
               with_reducible rfl
              rotate_left
              ·simp only [Act.put, sA, sZ, sS, i64_w, i32_w]
               rfl
              refine pure_ (i := 4) (N := some 48) (v := ?_) (a' := ?_) #[true, true, true, false, true, false, false, false, false, false] rfl rfl (any_of HT_.out (by kernel_rfl)) (fun _ _ _ h => h) (Or.inl ⟨by rfl, ?_⟩) ?_ ?_
              rotate_left
              ·intro w'
               go_simp
               with_reducible rfl
              rotate_left
              ·simp only [Act.put, sA, sZ, sS, i64_w, i32_w]
               rfl
              refine pure_ (i := 5) (N := some 49) (v := ?_) (a' := ?_) #[true, true, true, false, true, true, false, false, false, false] rfl rfl (any_of HT_.out (by kernel_rfl)) (fun _ _ _ h => h) (Or.inl ⟨by rfl, ?_⟩) ?_ ?_
              rotate_left
              ·intro w'
               go_simp
               with_reducible rfl
              rotate_left
              ·simp only [Act.put, sA, sZ, sS, i64_w, i32_w]
               rfl
              refine take_ (i := 3) (N := some 47) (v := ?_) (a' := ?_) #[true, true, true, true, true, true, false, false, false, false] rfl rfl (take_ofW HT_.out HW_.out (by kernel_rfl)) (fun _ _ _ h => h) (Or.inl ⟨by rfl, ?_⟩) hHeld ?_ ?_
              rotate_left
              ·rintro w' ⟨s0, s1, s2, s3, s4, s5, s6, s7⟩
               go_simp
               with_reducible rfl
              rotate_left
              ·simp only [Act.put, sA, sZ, sS, i64_w, i32_w]
               rfl
              refine take_ (i := 6) (N := some 50) (v := ?_) (a' := ?_) #[true, true, true, true, true, true, true, false, false, false] rfl rfl (take_ofW HT_.out HW_.out (by kernel_rfl)) (fun _ _ _ h => h) (Or.inl ⟨by rfl, ?_⟩) hHeld ?_ ?_
              rotate_left
              ·rintro w' ⟨s0, s1, s2, s3, s4, s5, s6, s7⟩
               go_simp
               with_reducible rfl
              rotate_left
              ·simp only [Act.put, sA, sZ, sS, i64_w, i32_w]
               rfl
              refine one_ (i := 7) (N := some 51) #[true, true, true, true, true, true, true, true, false, false] rfl rfl (one_of HT_.out (by kernel_rfl)) (by decide) (fun K hK => ?_)
              refine goes_ Try.func55 (by kernel_rfl) rfl #[.agg #[.int .i64 t150, .int .i64 t151, .int .i64 t152, .int .i64 t153], .agg #[.int .i64 x701_1, .int .i64 x702_1, .int .i64 x703_1, .int .i64 x704_1]] (by rfl) rfl rfl (by (try simp only [List.map_toArray, List.map_cons, List.map_nil]); first | done | rfl | (simp only [List.length_drop, List.length_take]; rfl)) ?_
              with_reducible refine (expand_order.calls kj11 t150 t151 t152 t153 x701_1 x702_1 x703_1 x704_1 t156 _ A27.out).mono ?_
              rintro e w40 ⟨rfl, hb⟩
              refine ⟨_, rfl, ?_⟩
              have n0_ := aM (blk_below (bX BK145.out) hb)
              have n1_ := aM (blk_below (bX BK146.out) hb)
              have n2_ := aM (blk_below (bX BK142.out) hb)
              have n3_ := aM (blk_below (bX BK155.out) hb)
              have n4_ := aM (below_step (by repeat (first | (with_reducible first | exact HB.out | apply lA | apply lN | apply lD | refine lS ?_ GE145.out | refine lS ?_ GE146.out | refine lS ?_ GE142.out | refine lS ?_ GE155.out) | exact HB.out)) hb)
              clear BK145
              clear BK146
              clear BK142
              clear BK155
              clear HB
              have BK145 := n0_
              have BK146 := n1_
              have BK142 := n2_
              have BK155 := n3_
              have HB := n4_
              clear n0_ n1_ n2_ n3_ n4_
              (try clear hb)
              (try clear hb2)
              (try clear hk)
              (try clear hi)
              refine hK.out _ _ ⟨(blk_cell BK155.out 0).trans rfl, (blk_cell BK155.out 1).trans rfl, (blk_cell BK155.out 2).trans rfl, (blk_cell BK155.out 3).trans rfl, (blk_cell BK142.out 0).trans rfl, (blk_cell BK142.out 1).trans rfl, (blk_cell BK142.out 2).trans rfl, (blk_cell BK142.out 3).trans rfl⟩ (fun hHeld => ?_)
              clear hK K
              refine norm_ (a' := ?_) ?_ ?_
              rotate_left
              ·show Act.put _ (some 51) _ = _
               simp only [Act.put, sA, sZ, sS, i64_w, i32_w]
               rfl
              refine pure_ (i := 8) (N := some 52) (v := ?_) (a' := ?_) #[true, true, true, true, true, true, true, true, true, false] rfl rfl (any_of HT_.out (by kernel_rfl)) (fun _ _ _ h => h) (Or.inl ⟨by rfl, ?_⟩) ?_ ?_
              rotate_left
              ·intro w'
               go_simp
               with_reducible rfl
              rotate_left
              ·simp only [Act.put, sA, sZ, sS, i64_w, i32_w]
               rfl
              refine pure_ (i := 9) (N := some 53) (v := ?_) (a' := ?_) #[true, true, true, true, true, true, true, true, true, true] rfl rfl (any_of HT_.out (by kernel_rfl)) (fun _ _ _ h => h) (Or.inl ⟨by rfl, ?_⟩) ?_ ?_
              rotate_left
              ·intro w'
               go_simp
               with_reducible rfl
              rotate_left
              ·simp only [Act.put, sA, sZ, sS, i64_w, i32_w]
               rfl
              refine done_ (done_of HT_.out (by kernel_rfl)) ?_
              try go_wp2
              go_roundg kj11
              case measure => have := HK1.out; have := HK2.out; have := HJ11.out; omega
              case rel => exact ⟨(wrap64 (x12_1 + 1)), (true), (t150), (t151), (t152), (t153), (gb155), rfl, (by first | rfl | (simp; done) | (simp [*]; done)), ⟨fun _ => ⟨by (with_reducible repeat first | apply bN | apply bD | apply bA); exact BK155.out, GW155.out⟩⟩, H', ⟨by have := HK1.out; have := HK2.out; have := HJ11.out; omega⟩, ⟨by repeat (first | (with_reducible first | exact HB.out | apply lA | apply lN | apply lD | refine lS ?_ GE145.out | refine lS ?_ GE146.out | refine lS ?_ GE142.out | refine lS ?_ GE155.out) | exact HB.out)⟩⟩
             ·rw [if_neg c28] at H
              have c28b0 : decide (t156 < 0) = false := decide_eq_false c28
              clear c28
              have H' := aM H
              clear H
              have hnb41 := NB146_145.out
              have hnc41 := NB145_146.out
              have hnb42 := NB146_142.out
              have hnc42 := NB142_146.out
              obtain ⟨hcz43_0, hcz43_1, hcz43_2, hcz43_3, hcz43_4, hcz43_5, hcz43_6, hcz43_7, hcz43_8, hcz43_9, hcz43_10⟩ := blkC11 BK146.out
              obtain ⟨hfz43_0, hfz43_1, hfz43_2, hfz43_3, hfz43_4, hfz43_5, hfz43_6, hfz43_7, hfz43_8, hfz43_9, hfz43_10⟩ := blkF11 BK146.out
              try go_wp2_with (first | ((with_reducible refine gate_callee (f := 54) rfl ?_); refine goesL_ (some 39) rfl rfl Try.func54 (by kernel_rfl) rfl #[.agg #[.string ((rd_T53 l0 x12_1).f0), .int .i64 ((rd_T53 l0 x12_1).f1), .int .i64 ((rd_T53 l0 x12_1).f2), .int .i64 ((rd_T53 l0 x12_1).f3), .int .i64 ((rd_T53 l0 x12_1).f4.f0), .int .i64 ((rd_T53 l0 x12_1).f4.f1), .int .i64 ((rd_T53 l0 x12_1).f4.f2), .int .i64 ((rd_T53 l0 x12_1).f5.f0), .int .i64 ((rd_T53 l0 x12_1).f5.f1), .int .i64 ((rd_T53 l0 x12_1).f6), .string ((rd_T53 l0 x12_1).f7)], .int .i64 x12_1, .int .i64 x7_2] rfl (by (try simp only [List.map_toArray, List.map_cons, List.map_nil]); first | done | rfl | (simp only [List.length_drop, List.length_take]; rfl)) ?_; (with_reducible refine (expand_lasting_fire.calls kj11 ((rd_T53 l0 x12_1).f0) ((rd_T53 l0 x12_1).f1) ((rd_T53 l0 x12_1).f2) ((rd_T53 l0 x12_1).f3) ((rd_T53 l0 x12_1).f4.f0) ((rd_T53 l0 x12_1).f4.f1) ((rd_T53 l0 x12_1).f4.f2) ((rd_T53 l0 x12_1).f5.f0) ((rd_T53 l0 x12_1).f5.f1) ((rd_T53 l0 x12_1).f6) ((rd_T53 l0 x12_1).f7) x12_1 x7_2 t150 t151 t152 t153 true _ A24.out).mono ?_); rintro e w44 ⟨rfl, hb⟩; refine ⟨_, rfl, ?_⟩; have n0_ := aM (blk_below (bX BK145.out) hb); have n1_ := aM (blk_below (bX BK146.out) hb); have n2_ := aM (blk_below (bX BK142.out) hb); have n3_ := aM (below_step (by repeat (first | (with_reducible first | exact HB.out | apply lA | apply lN | apply lD | refine lS ?_ GE145.out | refine lS ?_ GE146.out | refine lS ?_ GE142.out) | exact HB.out)) hb); clear BK145; clear BK146; clear BK142; clear HB; have BK145 := n0_; have BK146 := n1_; have BK142 := n2_; have HB := n3_; clear n0_ n1_ n2_ n3_; (try clear hb); (try clear hb2); (try clear hk); (try clear hi)) | ((with_reducible refine gate_dst (N := 8) rfl ?_); refine box_event ?hg (N := 8) ?hd (cs := #[.int .i64 0, .int .i64 0, .int .i64 0, .int .i64 0]) (t := 84) ?hr ?_; (case hd => rfl); (case hg => rfl); (case hr => first | (go_simp; done) | (go_simp; rfl)); intro gb155 hg w45 hbox hb; have n0_ := aM (blk_below (bX BK145.out) hb); have n1_ := aM (blk_below (bX BK146.out) hb); have n2_ := aM (blk_below (bX BK142.out) hb); have n3_ := aM (below_step (by repeat (first | (with_reducible first | exact HB.out | apply lA | apply lN | apply lD | refine lS ?_ GE145.out | refine lS ?_ GE146.out | refine lS ?_ GE142.out) | exact HB.out)) hb); have n4_ := aM (hbox); have n5_ := aM ((by rw [hg]; exact (below_size (by repeat (first | (with_reducible first | exact HB.out | apply lA | apply lN | apply lD | refine lS ?_ GE145.out | refine lS ?_ GE146.out | refine lS ?_ GE142.out) | exact HB.out))) : w.heap.size ≤ gb155)); have n6_ := aM ((by rw [hg]; exact (below_size (by repeat (first | (with_reducible first | exact HB.out | apply lA | apply lN | apply lD | refine lS ?_ GE145.out | refine lS ?_ GE146.out | refine lS ?_ GE142.out) | exact HB.out))) : w.heap.size ≤ gb155)); have n7_ := aM ((by rw [hg]; exact Nat.ne_of_lt (blk_lt (bX BK145.out)) : gb145 ≠ gb155)); have n8_ := aM ((by rw [hg]; exact Nat.ne_of_gt (blk_lt (bX BK145.out)) : gb155 ≠ gb145)); have n9_ := aM ((by rw [hg]; exact Nat.ne_of_lt (blk_lt (bX BK146.out)) : gb146 ≠ gb155)); have n10_ := aM ((by rw [hg]; exact Nat.ne_of_gt (blk_lt (bX BK146.out)) : gb155 ≠ gb146)); have n11_ := aM ((by rw [hg]; exact Nat.ne_of_lt (blk_lt (bX BK142.out)) : go3_1 ≠ gb155)); have n12_ := aM ((by rw [hg]; exact Nat.ne_of_gt (blk_lt (bX BK142.out)) : gb155 ≠ go3_1)); clear BK145; clear BK146; clear BK142; clear HB; have BK145 := n0_; have BK146 := n1_; have BK142 := n2_; have HB := n3_; have BK155 := n4_; have GW155 := n5_; have GE155 := n6_; have NB145_155 := n7_; have NB155_145 := n8_; have NB146_155 := n9_; have NB155_146 := n10_; have NB142_155 := n11_; have NB155_142 := n12_; clear n0_ n1_ n2_ n3_ n4_ n5_ n6_ n7_ n8_ n9_ n10_ n11_ n12_; clear hb hbox hg; have hnb46 := NB155_145.out; have hnc46 := NB145_155.out; have hnb47 := NB155_146.out; have hnc47 := NB146_155.out; have hnb48 := NB155_142.out; have hnc48 := NB142_155.out; obtain ⟨hcz49_0, hcz49_1, hcz49_2, hcz49_3⟩ := blkC4 BK155.out; obtain ⟨hfz49_0, hfz49_1, hfz49_2, hfz49_3⟩ := blkF4 BK155.out))
              have n0_ : Aside0 (((((w45.setCell ⟨gb155, 0, none⟩ (.int .i64 t150)).setCell ⟨gb155, 1, none⟩ (.int .i64 t151)).setCell ⟨gb155, 2, none⟩ (.int .i64 t152)).setCell ⟨gb155, 3, none⟩ (.int .i64 t153)).heap[gb145]? = some (.cells #[.string ((rd_T53 l0 x12_1).f0), .int .i64 ((rd_T53 l0 x12_1).f1), .int .i64 ((rd_T53 l0 x12_1).f2), .int .i64 ((rd_T53 l0 x12_1).f3), .int .i64 ((rd_T53 l0 x12_1).f4.f0), .int .i64 ((rd_T53 l0 x12_1).f4.f1), .int .i64 ((rd_T53 l0 x12_1).f4.f2), .int .i64 ((rd_T53 l0 x12_1).f5.f0), .int .i64 ((rd_T53 l0 x12_1).f5.f1), .int .i64 ((rd_T53 l0 x12_1).f6), .string ((rd_T53 l0 x12_1).f7)] 53 (0, 0))) := ⟨by (with_reducible repeat first | apply bN | apply bD | apply bA); refine blk_far ?_ NB145_155.out _; (with_reducible repeat first | apply bN | apply bD | apply bA); refine blk_far ?_ NB145_155.out _; (with_reducible repeat first | apply bN | apply bD | apply bA); refine blk_far ?_ NB145_155.out _; (with_reducible repeat first | apply bN | apply bD | apply bA); refine blk_far ?_ NB145_155.out _; (with_reducible repeat first | apply bN | apply bD | apply bA); exact BK145.out⟩
              have n1_ : Aside0 (((((w45.setCell ⟨gb155, 0, none⟩ (.int .i64 t150)).setCell ⟨gb155, 1, none⟩ (.int .i64 t151)).setCell ⟨gb155, 2, none⟩ (.int .i64 t152)).setCell ⟨gb155, 3, none⟩ (.int .i64 t153)).heap[gb146]? = some (.cells #[.string ((rd_T53 l0 x12_1).f0), .int .i64 ((rd_T53 l0 x12_1).f1), .int .i64 ((rd_T53 l0 x12_1).f2), .int .i64 ((rd_T53 l0 x12_1).f3), .int .i64 ((rd_T53 l0 x12_1).f4.f0), .int .i64 ((rd_T53 l0 x12_1).f4.f1), .int .i64 ((rd_T53 l0 x12_1).f4.f2), .int .i64 ((rd_T53 l0 x12_1).f5.f0), .int .i64 ((rd_T53 l0 x12_1).f5.f1), .int .i64 ((rd_T53 l0 x12_1).f6), .string ((rd_T53 l0 x12_1).f7)] 96 (0, 0))) := ⟨by (with_reducible repeat first | apply bN | apply bD | apply bA); refine blk_far ?_ NB146_155.out _; (with_reducible repeat first | apply bN | apply bD | apply bA); refine blk_far ?_ NB146_155.out _; (with_reducible repeat first | apply bN | apply bD | apply bA); refine blk_far ?_ NB146_155.out _; (with_reducible repeat first | apply bN | apply bD | apply bA); refine blk_far ?_ NB146_155.out _; (with_reducible repeat first | apply bN | apply bD | apply bA); exact BK146.out⟩
              have n2_ : Aside0 (((((w45.setCell ⟨gb155, 0, none⟩ (.int .i64 t150)).setCell ⟨gb155, 1, none⟩ (.int .i64 t151)).setCell ⟨gb155, 2, none⟩ (.int .i64 t152)).setCell ⟨gb155, 3, none⟩ (.int .i64 t153)).heap[go3_1]? = some (.cells #[.int .i64 x701_1, .int .i64 x702_1, .int .i64 x703_1, .int .i64 x704_1] 84 (0, 0))) := ⟨by (with_reducible repeat first | apply bN | apply bD | apply bA); refine blk_far ?_ NB142_155.out _; (with_reducible repeat first | apply bN | apply bD | apply bA); refine blk_far ?_ NB142_155.out _; (with_reducible repeat first | apply bN | apply bD | apply bA); refine blk_far ?_ NB142_155.out _; (with_reducible repeat first | apply bN | apply bD | apply bA); refine blk_far ?_ NB142_155.out _; (with_reducible repeat first | apply bN | apply bD | apply bA); exact BK142.out⟩
              have n3_ : Aside0 (((((w45.setCell ⟨gb155, 0, none⟩ (.int .i64 t150)).setCell ⟨gb155, 1, none⟩ (.int .i64 t151)).setCell ⟨gb155, 2, none⟩ (.int .i64 t152)).setCell ⟨gb155, 3, none⟩ (.int .i64 t153)).heap[gb155]? = some (.cells #[.int .i64 t150, .int .i64 t151, .int .i64 t152, .int .i64 t153] 84 (0, 0))) := ⟨by (with_reducible repeat first | apply bN | apply bD | apply bA); refine blk_put (cs := #[.int .i64 t150, .int .i64 t151, .int .i64 t152, .int .i64 0]) ?_ 3 _ rfl; (with_reducible repeat first | apply bN | apply bD | apply bA); refine blk_put (cs := #[.int .i64 t150, .int .i64 t151, .int .i64 0, .int .i64 0]) ?_ 2 _ rfl; (with_reducible repeat first | apply bN | apply bD | apply bA); refine blk_put (cs := #[.int .i64 t150, .int .i64 0, .int .i64 0, .int .i64 0]) ?_ 1 _ rfl; (with_reducible repeat first | apply bN | apply bD | apply bA); refine blk_put (cs := #[.int .i64 0, .int .i64 0, .int .i64 0, .int .i64 0]) ?_ 0 _ rfl; (with_reducible repeat first | apply bN | apply bD | apply bA); exact BK155.out⟩
              have n4_ : Aside0 (Below w.heap.size w ((((w45.setCell ⟨gb155, 0, none⟩ (.int .i64 t150)).setCell ⟨gb155, 1, none⟩ (.int .i64 t151)).setCell ⟨gb155, 2, none⟩ (.int .i64 t152)).setCell ⟨gb155, 3, none⟩ (.int .i64 t153))) := ⟨by repeat (first | (with_reducible first | exact HB.out | apply lA | apply lN | apply lD | refine lS ?_ GE145.out | refine lS ?_ GE146.out | refine lS ?_ GE142.out | refine lS ?_ GE155.out) | exact HB.out)⟩
              (try clear BK145)
              (try clear BK146)
              (try clear BK142)
              (try clear BK155)
              (try clear HB)
              generalize ((((w45.setCell ⟨gb155, 0, none⟩ (.int .i64 t150)).setCell ⟨gb155, 1, none⟩ (.int .i64 t151)).setCell ⟨gb155, 2, none⟩ (.int .i64 t152)).setCell ⟨gb155, 3, none⟩ (.int .i64 t153)) = w50 at n0_ n1_ n2_ n3_ n4_ ⊢
              have BK145 := n0_
              have BK146 := n1_
              have BK142 := n2_
              have BK155 := n3_
              have HB := n4_
              clear n0_ n1_ n2_ n3_ n4_
              have n0_ := aM (blk_drew BK145.out)
              have n1_ := aM (blk_drew BK146.out)
              have n2_ := aM (blk_drew BK142.out)
              have n3_ := aM (blk_drew BK155.out)
              have n4_ := aM (lD HB.out)
              clear BK145
              clear BK146
              clear BK142
              clear BK155
              clear HB
              have BK145 := n0_
              have BK146 := n1_
              have BK142 := n2_
              have BK155 := n3_
              have HB := n4_
              clear n0_ n1_ n2_ n3_ n4_
              refine start_ (n := 10) (S := fun w' => w'.cell? ⟨gb155, 0, none⟩ = some (.int .i64 t150) ∧ w'.cell? ⟨gb155, 1, none⟩ = some (.int .i64 t151) ∧ w'.cell? ⟨gb155, 2, none⟩ = some (.int .i64 t152) ∧ w'.cell? ⟨gb155, 3, none⟩ = some (.int .i64 t153) ∧ w'.cell? ⟨go3_1, 0, none⟩ = some (.int .i64 x701_1) ∧ w'.cell? ⟨go3_1, 1, none⟩ = some (.int .i64 x702_1) ∧ w'.cell? ⟨go3_1, 2, none⟩ = some (.int .i64 x703_1) ∧ w'.cell? ⟨go3_1, 3, none⟩ = some (.int .i64 x704_1)) (ds := []) #[false, false, false, false, false, false, false, false, false, false] (by kernel_rfl) rfl rfl ⟨(blk_cell BK155.out 0).trans rfl, (blk_cell BK155.out 1).trans rfl, (blk_cell BK155.out 2).trans rfl, (blk_cell BK155.out 3).trans rfl, (blk_cell BK142.out 0).trans rfl, (blk_cell BK142.out 1).trans rfl, (blk_cell BK142.out 2).trans rfl, (blk_cell BK142.out 3).trans rfl⟩ (fun hHeld => ?_); refine with_tabW expand_Letter.tab11 expand_Letter.bits11 (fun HT_ HW_ => ?_)
              generalize w50.drew = w51 at BK145 BK146 BK142 BK155 HB hHeld ⊢
              refine pure_ (i := 0) (N := some 44) (v := ?_) (a' := ?_) #[true, false, false, false, false, false, false, false, false, false] rfl rfl (any_of HT_.out (by kernel_rfl)) (fun _ _ _ h => h) (Or.inl ⟨by rfl, ?_⟩) ?_ ?_
              rotate_left
              ·intro w'
               go_simp
               with_reducible rfl
              rotate_left
              ·simp only [Act.put, sA, sZ, sS, i64_w, i32_w]
               rfl
              refine pure_ (i := 1) (N := some 45) (v := ?_) (a' := ?_) #[true, true, false, false, false, false, false, false, false, false] rfl rfl (any_of HT_.out (by kernel_rfl)) (fun _ _ _ h => h) (Or.inl ⟨by rfl, ?_⟩) ?_ ?_
              rotate_left
              ·intro w'
               go_simp
               with_reducible rfl
              rotate_left
              ·simp only [Act.put, sA, sZ, sS, i64_w, i32_w]
               rfl
              refine pure_ (i := 2) (N := some 46) (v := ?_) (a' := ?_) #[true, true, true, false, false, false, false, false, false, false] rfl rfl (any_of HT_.out (by kernel_rfl)) (fun _ _ _ h => h) (Or.inl ⟨by rfl, ?_⟩) ?_ ?_
              rotate_left
              ·intro w'
               go_simp
               with_reducible rfl
              rotate_left
              ·simp only [Act.put, sA, sZ, sS, i64_w, i32_w]
               rfl
              refine pure_ (i := 4) (N := some 48) (v := ?_) (a' := ?_) #[true, true, true, false, true, false, false, false, false, false] rfl rfl (any_of HT_.out (by kernel_rfl)) (fun _ _ _ h => h) (Or.inl ⟨by rfl, ?_⟩) ?_ ?_
              rotate_left
              ·intro w'
               go_simp
               with_reducible rfl
              rotate_left
              ·simp only [Act.put, sA, sZ, sS, i64_w, i32_w]
               rfl
              refine pure_ (i := 5) (N := some 49) (v := ?_) (a' := ?_) #[true, true, true, false, true, true, false, false, false, false] rfl rfl (any_of HT_.out (by kernel_rfl)) (fun _ _ _ h => h) (Or.inl ⟨by rfl, ?_⟩) ?_ ?_
              rotate_left
              ·intro w'
               go_simp
               with_reducible rfl
              rotate_left
              ·simp only [Act.put, sA, sZ, sS, i64_w, i32_w]
               rfl
              refine take_ (i := 3) (N := some 47) (v := ?_) (a' := ?_) #[true, true, true, true, true, true, false, false, false, false] rfl rfl (take_ofW HT_.out HW_.out (by kernel_rfl)) (fun _ _ _ h => h) (Or.inl ⟨by rfl, ?_⟩) hHeld ?_ ?_
              rotate_left
              ·rintro w' ⟨s0, s1, s2, s3, s4, s5, s6, s7⟩
               go_simp
               with_reducible rfl
              rotate_left
              ·simp only [Act.put, sA, sZ, sS, i64_w, i32_w]
               rfl
              refine take_ (i := 6) (N := some 50) (v := ?_) (a' := ?_) #[true, true, true, true, true, true, true, false, false, false] rfl rfl (take_ofW HT_.out HW_.out (by kernel_rfl)) (fun _ _ _ h => h) (Or.inl ⟨by rfl, ?_⟩) hHeld ?_ ?_
              rotate_left
              ·rintro w' ⟨s0, s1, s2, s3, s4, s5, s6, s7⟩
               go_simp
               with_reducible rfl
              rotate_left
              ·simp only [Act.put, sA, sZ, sS, i64_w, i32_w]
               rfl
              refine one_ (i := 7) (N := some 51) #[true, true, true, true, true, true, true, true, false, false] rfl rfl (one_of HT_.out (by kernel_rfl)) (by decide) (fun K hK => ?_)
              refine goes_ Try.func55 (by kernel_rfl) rfl #[.agg #[.int .i64 t150, .int .i64 t151, .int .i64 t152, .int .i64 t153], .agg #[.int .i64 x701_1, .int .i64 x702_1, .int .i64 x703_1, .int .i64 x704_1]] (by rfl) rfl rfl (by (try simp only [List.map_toArray, List.map_cons, List.map_nil]); first | done | rfl | (simp only [List.length_drop, List.length_take]; rfl)) ?_
              with_reducible refine (expand_order.calls kj11 t150 t151 t152 t153 x701_1 x702_1 x703_1 x704_1 t156 _ A27.out).mono ?_
              rintro e w52 ⟨rfl, hb⟩
              refine ⟨_, rfl, ?_⟩
              have n0_ := aM (blk_below (bX BK145.out) hb)
              have n1_ := aM (blk_below (bX BK146.out) hb)
              have n2_ := aM (blk_below (bX BK142.out) hb)
              have n3_ := aM (blk_below (bX BK155.out) hb)
              have n4_ := aM (below_step (by repeat (first | (with_reducible first | exact HB.out | apply lA | apply lN | apply lD | refine lS ?_ GE145.out | refine lS ?_ GE146.out | refine lS ?_ GE142.out | refine lS ?_ GE155.out) | exact HB.out)) hb)
              clear BK145
              clear BK146
              clear BK142
              clear BK155
              clear HB
              have BK145 := n0_
              have BK146 := n1_
              have BK142 := n2_
              have BK155 := n3_
              have HB := n4_
              clear n0_ n1_ n2_ n3_ n4_
              (try clear hb)
              (try clear hb2)
              (try clear hk)
              (try clear hi)
              refine hK.out _ _ ⟨(blk_cell BK155.out 0).trans rfl, (blk_cell BK155.out 1).trans rfl, (blk_cell BK155.out 2).trans rfl, (blk_cell BK155.out 3).trans rfl, (blk_cell BK142.out 0).trans rfl, (blk_cell BK142.out 1).trans rfl, (blk_cell BK142.out 2).trans rfl, (blk_cell BK142.out 3).trans rfl⟩ (fun hHeld => ?_)
              clear hK K
              refine norm_ (a' := ?_) ?_ ?_
              rotate_left
              ·show Act.put _ (some 51) _ = _
               simp only [Act.put, sA, sZ, sS, i64_w, i32_w]
               rfl
              refine pure_ (i := 8) (N := some 52) (v := ?_) (a' := ?_) #[true, true, true, true, true, true, true, true, true, false] rfl rfl (any_of HT_.out (by kernel_rfl)) (fun _ _ _ h => h) (Or.inl ⟨by rfl, ?_⟩) ?_ ?_
              rotate_left
              ·intro w'
               go_simp
               with_reducible rfl
              rotate_left
              ·simp only [Act.put, sA, sZ, sS, i64_w, i32_w]
               rfl
              refine pure_ (i := 9) (N := some 53) (v := ?_) (a' := ?_) #[true, true, true, true, true, true, true, true, true, true] rfl rfl (any_of HT_.out (by kernel_rfl)) (fun _ _ _ h => h) (Or.inl ⟨by rfl, ?_⟩) ?_ ?_
              rotate_left
              ·intro w'
               go_simp
               with_reducible rfl
              rotate_left
              ·simp only [Act.put, sA, sZ, sS, i64_w, i32_w]
               rfl
              refine done_ (done_of HT_.out (by kernel_rfl)) ?_
              try go_wp2
              go_roundg kj11
              case measure => have := HK1.out; have := HK2.out; have := HJ11.out; omega
              case rel => exact ⟨(wrap64 (x12_1 + 1)), (true), (x701_1), (x702_1), (x703_1), (x704_1), (go3_1), rfl, (by first | rfl | (simp; done) | (simp [*]; done)), ⟨fun _ => ⟨by (with_reducible repeat first | apply bN | apply bD | apply bA); exact BK142.out, GW142.out⟩⟩, H', ⟨by have := HK1.out; have := HK2.out; have := HJ11.out; omega⟩, ⟨by repeat (first | (with_reducible first | exact HB.out | apply lA | apply lN | apply lD | refine lS ?_ GE145.out | refine lS ?_ GE146.out | refine lS ?_ GE142.out | refine lS ?_ GE155.out) | exact HB.out)⟩⟩
            ·replace c26 := Bool.eq_false_iff.mpr c26
             subst c26
             have H1 : (expand_Letter.l0 kj11 l0 l0 (l0.length : Int) (wrap64 (x12_1 + 1)) true t150 t151 t152 t153) = some r := by rw [if_neg (show ¬ (false = true) by decide)] at H; exact H
             clear H
             have H := H1
             clear H1
             try simp only [optP_true, optP_false]
             clear OB142
             have H' := aM H
             clear H
             have hnb53 := NB146_145.out
             have hnc53 := NB145_146.out
             obtain ⟨hcz54_0, hcz54_1, hcz54_2, hcz54_3, hcz54_4, hcz54_5, hcz54_6, hcz54_7, hcz54_8, hcz54_9, hcz54_10⟩ := blkC11 BK146.out
             obtain ⟨hfz54_0, hfz54_1, hfz54_2, hfz54_3, hfz54_4, hfz54_5, hfz54_6, hfz54_7, hfz54_8, hfz54_9, hfz54_10⟩ := blkF11 BK146.out
             try go_wp2_with (first | ((with_reducible refine gate_callee (f := 54) rfl ?_); refine goesL_ (some 39) rfl rfl Try.func54 (by kernel_rfl) rfl #[.agg #[.string ((rd_T53 l0 x12_1).f0), .int .i64 ((rd_T53 l0 x12_1).f1), .int .i64 ((rd_T53 l0 x12_1).f2), .int .i64 ((rd_T53 l0 x12_1).f3), .int .i64 ((rd_T53 l0 x12_1).f4.f0), .int .i64 ((rd_T53 l0 x12_1).f4.f1), .int .i64 ((rd_T53 l0 x12_1).f4.f2), .int .i64 ((rd_T53 l0 x12_1).f5.f0), .int .i64 ((rd_T53 l0 x12_1).f5.f1), .int .i64 ((rd_T53 l0 x12_1).f6), .string ((rd_T53 l0 x12_1).f7)], .int .i64 x12_1, .int .i64 x7_2] rfl (by (try simp only [List.map_toArray, List.map_cons, List.map_nil]); first | done | rfl | (simp only [List.length_drop, List.length_take]; rfl)) ?_; (with_reducible refine (expand_lasting_fire.calls kj11 ((rd_T53 l0 x12_1).f0) ((rd_T53 l0 x12_1).f1) ((rd_T53 l0 x12_1).f2) ((rd_T53 l0 x12_1).f3) ((rd_T53 l0 x12_1).f4.f0) ((rd_T53 l0 x12_1).f4.f1) ((rd_T53 l0 x12_1).f4.f2) ((rd_T53 l0 x12_1).f5.f0) ((rd_T53 l0 x12_1).f5.f1) ((rd_T53 l0 x12_1).f6) ((rd_T53 l0 x12_1).f7) x12_1 x7_2 t150 t151 t152 t153 true _ A24.out).mono ?_); rintro e w55 ⟨rfl, hb⟩; refine ⟨_, rfl, ?_⟩; have n0_ := aM (blk_below (bX BK145.out) hb); have n1_ := aM (blk_below (bX BK146.out) hb); have n2_ := aM (below_step (by repeat (first | (with_reducible first | exact HB.out | apply lA | apply lN | apply lD | refine lS ?_ GE145.out | refine lS ?_ GE146.out) | exact HB.out)) hb); clear BK145; clear BK146; clear HB; have BK145 := n0_; have BK146 := n1_; have HB := n2_; clear n0_ n1_ n2_; (try clear hb); (try clear hb2); (try clear hk); (try clear hi)) | ((with_reducible refine gate_dst (N := 8) rfl ?_); refine box_event ?hg (N := 8) ?hd (cs := #[.int .i64 0, .int .i64 0, .int .i64 0, .int .i64 0]) (t := 84) ?hr ?_; (case hd => rfl); (case hg => rfl); (case hr => first | (go_simp; done) | (go_simp; rfl)); intro gb155 hg w56 hbox hb; have n0_ := aM (blk_below (bX BK145.out) hb); have n1_ := aM (blk_below (bX BK146.out) hb); have n2_ := aM (below_step (by repeat (first | (with_reducible first | exact HB.out | apply lA | apply lN | apply lD | refine lS ?_ GE145.out | refine lS ?_ GE146.out) | exact HB.out)) hb); have n3_ := aM (hbox); have n4_ := aM ((by rw [hg]; exact (below_size (by repeat (first | (with_reducible first | exact HB.out | apply lA | apply lN | apply lD | refine lS ?_ GE145.out | refine lS ?_ GE146.out) | exact HB.out))) : w.heap.size ≤ gb155)); have n5_ := aM ((by rw [hg]; exact (below_size (by repeat (first | (with_reducible first | exact HB.out | apply lA | apply lN | apply lD | refine lS ?_ GE145.out | refine lS ?_ GE146.out) | exact HB.out))) : w.heap.size ≤ gb155)); have n6_ := aM ((by rw [hg]; exact Nat.ne_of_lt (blk_lt (bX BK145.out)) : gb145 ≠ gb155)); have n7_ := aM ((by rw [hg]; exact Nat.ne_of_gt (blk_lt (bX BK145.out)) : gb155 ≠ gb145)); have n8_ := aM ((by rw [hg]; exact Nat.ne_of_lt (blk_lt (bX BK146.out)) : gb146 ≠ gb155)); have n9_ := aM ((by rw [hg]; exact Nat.ne_of_gt (blk_lt (bX BK146.out)) : gb155 ≠ gb146)); clear BK145; clear BK146; clear HB; have BK145 := n0_; have BK146 := n1_; have HB := n2_; have BK155 := n3_; have GW155 := n4_; have GE155 := n5_; have NB145_155 := n6_; have NB155_145 := n7_; have NB146_155 := n8_; have NB155_146 := n9_; clear n0_ n1_ n2_ n3_ n4_ n5_ n6_ n7_ n8_ n9_; clear hb hbox hg; have hnb57 := NB155_145.out; have hnc57 := NB145_155.out; have hnb58 := NB155_146.out; have hnc58 := NB146_155.out; obtain ⟨hcz59_0, hcz59_1, hcz59_2, hcz59_3⟩ := blkC4 BK155.out; obtain ⟨hfz59_0, hfz59_1, hfz59_2, hfz59_3⟩ := blkF4 BK155.out))
             have n0_ : Aside0 (((((w56.setCell ⟨gb155, 0, none⟩ (.int .i64 t150)).setCell ⟨gb155, 1, none⟩ (.int .i64 t151)).setCell ⟨gb155, 2, none⟩ (.int .i64 t152)).setCell ⟨gb155, 3, none⟩ (.int .i64 t153)).heap[gb145]? = some (.cells #[.string ((rd_T53 l0 x12_1).f0), .int .i64 ((rd_T53 l0 x12_1).f1), .int .i64 ((rd_T53 l0 x12_1).f2), .int .i64 ((rd_T53 l0 x12_1).f3), .int .i64 ((rd_T53 l0 x12_1).f4.f0), .int .i64 ((rd_T53 l0 x12_1).f4.f1), .int .i64 ((rd_T53 l0 x12_1).f4.f2), .int .i64 ((rd_T53 l0 x12_1).f5.f0), .int .i64 ((rd_T53 l0 x12_1).f5.f1), .int .i64 ((rd_T53 l0 x12_1).f6), .string ((rd_T53 l0 x12_1).f7)] 53 (0, 0))) := ⟨by (with_reducible repeat first | apply bN | apply bD | apply bA); refine blk_far ?_ NB145_155.out _; (with_reducible repeat first | apply bN | apply bD | apply bA); refine blk_far ?_ NB145_155.out _; (with_reducible repeat first | apply bN | apply bD | apply bA); refine blk_far ?_ NB145_155.out _; (with_reducible repeat first | apply bN | apply bD | apply bA); refine blk_far ?_ NB145_155.out _; (with_reducible repeat first | apply bN | apply bD | apply bA); exact BK145.out⟩
             have n1_ : Aside0 (((((w56.setCell ⟨gb155, 0, none⟩ (.int .i64 t150)).setCell ⟨gb155, 1, none⟩ (.int .i64 t151)).setCell ⟨gb155, 2, none⟩ (.int .i64 t152)).setCell ⟨gb155, 3, none⟩ (.int .i64 t153)).heap[gb146]? = some (.cells #[.string ((rd_T53 l0 x12_1).f0), .int .i64 ((rd_T53 l0 x12_1).f1), .int .i64 ((rd_T53 l0 x12_1).f2), .int .i64 ((rd_T53 l0 x12_1).f3), .int .i64 ((rd_T53 l0 x12_1).f4.f0), .int .i64 ((rd_T53 l0 x12_1).f4.f1), .int .i64 ((rd_T53 l0 x12_1).f4.f2), .int .i64 ((rd_T53 l0 x12_1).f5.f0), .int .i64 ((rd_T53 l0 x12_1).f5.f1), .int .i64 ((rd_T53 l0 x12_1).f6), .string ((rd_T53 l0 x12_1).f7)] 96 (0, 0))) := ⟨by (with_reducible repeat first | apply bN | apply bD | apply bA); refine blk_far ?_ NB146_155.out _; (with_reducible repeat first | apply bN | apply bD | apply bA); refine blk_far ?_ NB146_155.out _; (with_reducible repeat first | apply bN | apply bD | apply bA); refine blk_far ?_ NB146_155.out _; (with_reducible repeat first | apply bN | apply bD | apply bA); refine blk_far ?_ NB146_155.out _; (with_reducible repeat first | apply bN | apply bD | apply bA); exact BK146.out⟩
             have n2_ : Aside0 (((((w56.setCell ⟨gb155, 0, none⟩ (.int .i64 t150)).setCell ⟨gb155, 1, none⟩ (.int .i64 t151)).setCell ⟨gb155, 2, none⟩ (.int .i64 t152)).setCell ⟨gb155, 3, none⟩ (.int .i64 t153)).heap[gb155]? = some (.cells #[.int .i64 t150, .int .i64 t151, .int .i64 t152, .int .i64 t153] 84 (0, 0))) := ⟨by (with_reducible repeat first | apply bN | apply bD | apply bA); refine blk_put (cs := #[.int .i64 t150, .int .i64 t151, .int .i64 t152, .int .i64 0]) ?_ 3 _ rfl; (with_reducible repeat first | apply bN | apply bD | apply bA); refine blk_put (cs := #[.int .i64 t150, .int .i64 t151, .int .i64 0, .int .i64 0]) ?_ 2 _ rfl; (with_reducible repeat first | apply bN | apply bD | apply bA); refine blk_put (cs := #[.int .i64 t150, .int .i64 0, .int .i64 0, .int .i64 0]) ?_ 1 _ rfl; (with_reducible repeat first | apply bN | apply bD | apply bA); refine blk_put (cs := #[.int .i64 0, .int .i64 0, .int .i64 0, .int .i64 0]) ?_ 0 _ rfl; (with_reducible repeat first | apply bN | apply bD | apply bA); exact BK155.out⟩
             have n3_ : Aside0 (Below w.heap.size w ((((w56.setCell ⟨gb155, 0, none⟩ (.int .i64 t150)).setCell ⟨gb155, 1, none⟩ (.int .i64 t151)).setCell ⟨gb155, 2, none⟩ (.int .i64 t152)).setCell ⟨gb155, 3, none⟩ (.int .i64 t153))) := ⟨by repeat (first | (with_reducible first | exact HB.out | apply lA | apply lN | apply lD | refine lS ?_ GE145.out | refine lS ?_ GE146.out | refine lS ?_ GE155.out) | exact HB.out)⟩
             (try clear BK145)
             (try clear BK146)
             (try clear BK155)
             (try clear HB)
             generalize ((((w56.setCell ⟨gb155, 0, none⟩ (.int .i64 t150)).setCell ⟨gb155, 1, none⟩ (.int .i64 t151)).setCell ⟨gb155, 2, none⟩ (.int .i64 t152)).setCell ⟨gb155, 3, none⟩ (.int .i64 t153)) = w60 at n0_ n1_ n2_ n3_ ⊢
             have BK145 := n0_
             have BK146 := n1_
             have BK155 := n2_
             have HB := n3_
             clear n0_ n1_ n2_ n3_
             have n0_ := aM (blk_drew BK145.out)
             have n1_ := aM (blk_drew BK146.out)
             have n2_ := aM (blk_drew BK155.out)
             have n3_ := aM (lD HB.out)
             clear BK145
             clear BK146
             clear BK155
             clear HB
             have BK145 := n0_
             have BK146 := n1_
             have BK155 := n2_
             have HB := n3_
             clear n0_ n1_ n2_ n3_
             refine start_ (n := 10) (S := fun w' => True) (ds := []) #[false, false, false, false, false, false, false, false, false, false] (by kernel_rfl) rfl rfl trivial (fun hHeld => ?_); refine with_tabW expand_Letter.tab11 expand_Letter.bits11 (fun HT_ HW_ => ?_)
             generalize w60.drew = w61 at BK145 BK146 BK155 HB hHeld ⊢
             refine pure_ (i := 0) (N := some 44) (v := ?_) (a' := ?_) #[true, false, false, false, false, false, false, false, false, false] rfl rfl (any_of HT_.out (by kernel_rfl)) (fun _ _ _ h => h) (Or.inl ⟨by rfl, ?_⟩) ?_ ?_
             rotate_left
             ·intro w'
              go_simp
              with_reducible rfl
             rotate_left
             ·simp only [Act.put, sA, sZ, sS, i64_w, i32_w]
              rfl
             refine pure_ (i := 1) (N := some 45) (v := ?_) (a' := ?_) #[true, true, false, false, false, false, false, false, false, false] rfl rfl (any_of HT_.out (by kernel_rfl)) (fun _ _ _ h => h) (Or.inl ⟨by rfl, ?_⟩) ?_ ?_
             rotate_left
             ·intro w'
              go_simp
              with_reducible rfl
             rotate_left
             ·simp only [Act.put, sA, sZ, sS, i64_w, i32_w]
              rfl
             refine pure_ (i := 2) (N := some 46) (v := ?_) (a' := ?_) #[true, true, true, false, false, false, false, false, false, false] rfl rfl (any_of HT_.out (by kernel_rfl)) (fun _ _ _ h => h) (Or.inl ⟨by rfl, ?_⟩) ?_ ?_
             rotate_left
             ·intro w'
              go_simp
              with_reducible rfl
             rotate_left
             ·simp only [Act.put, sA, sZ, sS, i64_w, i32_w]
              rfl
             refine pure_ (i := 3) (N := some 47) (v := undef) (a' := ?_) #[true, true, true, true, false, false, false, false, false, false] rfl rfl (any_of HT_.out (by kernel_rfl)) (fun _ _ _ h => h) (Or.inr ⟨by rfl, rfl⟩) ?_ ?_
             rotate_left
             ·simp only [Act.put, sA, sZ, sS, i64_w, i32_w]
              rfl
             refine pure_ (i := 4) (N := some 48) (v := undef) (a' := ?_) #[true, true, true, true, true, false, false, false, false, false] rfl rfl (any_of HT_.out (by kernel_rfl)) (fun _ _ _ h => h) (Or.inr ⟨by rfl, rfl⟩) ?_ ?_
             rotate_left
             ·simp only [Act.put, sA, sZ, sS, i64_w, i32_w]
              rfl
             refine pure_ (i := 5) (N := some 49) (v := undef) (a' := ?_) #[true, true, true, true, true, true, false, false, false, false] rfl rfl (any_of HT_.out (by kernel_rfl)) (fun _ _ _ h => h) (Or.inr ⟨by rfl, rfl⟩) ?_ ?_
             rotate_left
             ·simp only [Act.put, sA, sZ, sS, i64_w, i32_w]
              rfl
             refine pure_ (i := 6) (N := some 50) (v := undef) (a' := ?_) #[true, true, true, true, true, true, true, false, false, false] rfl rfl (any_of HT_.out (by kernel_rfl)) (fun _ _ _ h => h) (Or.inr ⟨by rfl, rfl⟩) ?_ ?_
             rotate_left
             ·simp only [Act.put, sA, sZ, sS, i64_w, i32_w]
              rfl
             refine pure_ (i := 7) (N := some 51) (v := undef) (a' := ?_) #[true, true, true, true, true, true, true, true, false, false] rfl rfl (any_of HT_.out (by kernel_rfl)) (fun _ _ _ h => h) (Or.inr ⟨by rfl, rfl⟩) ?_ ?_
             rotate_left
             ·simp only [Act.put, sA, sZ, sS, i64_w, i32_w]
              rfl
             refine pure_ (i := 8) (N := some 52) (v := undef) (a' := ?_) #[true, true, true, true, true, true, true, true, true, false] rfl rfl (any_of HT_.out (by kernel_rfl)) (fun _ _ _ h => h) (Or.inr ⟨by rfl, rfl⟩) ?_ ?_
             rotate_left
             ·simp only [Act.put, sA, sZ, sS, i64_w, i32_w]
              rfl
             refine pure_ (i := 9) (N := some 53) (v := ?_) (a' := ?_) #[true, true, true, true, true, true, true, true, true, true] rfl rfl (any_of HT_.out (by kernel_rfl)) (fun _ _ _ h => h) (Or.inl ⟨by rfl, ?_⟩) ?_ ?_
             rotate_left
             ·intro w'
              go_simp
              with_reducible rfl
             rotate_left
             ·simp only [Act.put, sA, sZ, sS, i64_w, i32_w]
              rfl
             refine done_ (done_of HT_.out (by kernel_rfl)) ?_
             try go_wp2
             go_roundg kj11
             case measure => have := HK1.out; have := HK2.out; have := HJ11.out; omega
             case rel => exact ⟨(wrap64 (x12_1 + 1)), (true), (t150), (t151), (t152), (t153), (gb155), rfl, (by first | rfl | (simp; done) | (simp [*]; done)), ⟨fun _ => ⟨by (with_reducible repeat first | apply bN | apply bD | apply bA); exact BK155.out, GW155.out⟩⟩, H', ⟨by have := HK1.out; have := HK2.out; have := HJ11.out; omega⟩, ⟨by repeat (first | (with_reducible first | exact HB.out | apply lA | apply lN | apply lD | refine lS ?_ GE145.out | refine lS ?_ GE146.out | refine lS ?_ GE155.out) | exact HB.out)⟩⟩
           ·replace c25 := Bool.eq_false_iff.mpr c25
            subst c25
            have H1 : (expand_Letter.l1 kj11 l0 x12_1 (wrap64 (x7_2 + 1)) l0 (l0.length : Int) x12_1 x700_1 x701_1 x702_1 x703_1 x704_1 ((rd_T53 l0 x12_1).f0) ((rd_T53 l0 x12_1).f1) ((rd_T53 l0 x12_1).f2) ((rd_T53 l0 x12_1).f3) ((rd_T53 l0 x12_1).f4.f0) ((rd_T53 l0 x12_1).f4.f1) ((rd_T53 l0 x12_1).f4.f2) ((rd_T53 l0 x12_1).f5.f0) ((rd_T53 l0 x12_1).f5.f1) ((rd_T53 l0 x12_1).f6) ((rd_T53 l0 x12_1).f7) ((rd_T53 l0 x12_1).f0) ((rd_T53 l0 x12_1).f1) ((rd_T53 l0 x12_1).f2) ((rd_T53 l0 x12_1).f3) ((rd_T53 l0 x12_1).f4.f0) ((rd_T53 l0 x12_1).f4.f1) ((rd_T53 l0 x12_1).f4.f2) ((rd_T53 l0 x12_1).f5.f0) ((rd_T53 l0 x12_1).f5.f1) ((rd_T53 l0 x12_1).f6) ((rd_T53 l0 x12_1).f7)) = some r := by rw [if_neg (show ¬ (false = true) by decide)] at H; exact H
            clear H
            have H := H1
            clear H1
            have H' := aM H
            clear H
            have hnb62 := NB146_145.out
            have hnc62 := NB145_146.out
            obtain ⟨hcz63_0, hcz63_1, hcz63_2, hcz63_3, hcz63_4, hcz63_5, hcz63_6, hcz63_7, hcz63_8, hcz63_9, hcz63_10⟩ := blkC11 BK146.out
            obtain ⟨hfz63_0, hfz63_1, hfz63_2, hfz63_3, hfz63_4, hfz63_5, hfz63_6, hfz63_7, hfz63_8, hfz63_9, hfz63_10⟩ := blkF11 BK146.out
            go_wp2_with (first | ((with_reducible refine gate_callee (f := 54) rfl ?_); refine goesL_ (some 39) rfl rfl Try.func54 (by kernel_rfl) rfl #[.agg #[.string ((rd_T53 l0 x12_1).f0), .int .i64 ((rd_T53 l0 x12_1).f1), .int .i64 ((rd_T53 l0 x12_1).f2), .int .i64 ((rd_T53 l0 x12_1).f3), .int .i64 ((rd_T53 l0 x12_1).f4.f0), .int .i64 ((rd_T53 l0 x12_1).f4.f1), .int .i64 ((rd_T53 l0 x12_1).f4.f2), .int .i64 ((rd_T53 l0 x12_1).f5.f0), .int .i64 ((rd_T53 l0 x12_1).f5.f1), .int .i64 ((rd_T53 l0 x12_1).f6), .string ((rd_T53 l0 x12_1).f7)], .int .i64 x12_1, .int .i64 x7_2] rfl (by (try simp only [List.map_toArray, List.map_cons, List.map_nil]); first | done | rfl | (simp only [List.length_drop, List.length_take]; rfl)) ?_; (with_reducible refine (expand_lasting_fire.calls kj11 ((rd_T53 l0 x12_1).f0) ((rd_T53 l0 x12_1).f1) ((rd_T53 l0 x12_1).f2) ((rd_T53 l0 x12_1).f3) ((rd_T53 l0 x12_1).f4.f0) ((rd_T53 l0 x12_1).f4.f1) ((rd_T53 l0 x12_1).f4.f2) ((rd_T53 l0 x12_1).f5.f0) ((rd_T53 l0 x12_1).f5.f1) ((rd_T53 l0 x12_1).f6) ((rd_T53 l0 x12_1).f7) x12_1 x7_2 t150 t151 t152 t153 false _ A24.out).mono ?_); rintro e w64 ⟨rfl, hb⟩; refine ⟨_, rfl, ?_⟩; have n0_ := aM (blk_below (bX BK145.out) hb); have n1_ := aM (blk_below (bX BK146.out) hb); have n2_ := aM (show (x700_1 = true → _ ∧ _) from fun h_ => ⟨blk_below (o := .cells #[.int .i64 x701_1, .int .i64 x702_1, .int .i64 x703_1, .int .i64 x704_1] 84 (0, 0)) (by (with_reducible repeat first | apply bN | apply bD | apply bA); exact (OB142.out h_).1) hb, (OB142.out h_).2⟩); have n3_ := aM (below_step (by repeat (first | (with_reducible first | exact HB.out | apply lA | apply lN | apply lD | refine lS ?_ GE145.out | refine lS ?_ GE146.out) | exact HB.out)) hb); clear BK145; clear BK146; clear OB142; clear HB; have BK145 := n0_; have BK146 := n1_; have OB142 := n2_; have HB := n3_; clear n0_ n1_ n2_ n3_; (try clear hb); (try clear hb2); (try clear hk); (try clear hi)) | ((with_reducible refine gate_dst (N := 8) rfl ?_); refine box_event ?hg (N := 8) ?hd (cs := #[.int .i64 0, .int .i64 0, .int .i64 0, .int .i64 0]) (t := 84) ?hr ?_; (case hd => rfl); (case hg => rfl); (case hr => first | (go_simp; done) | (go_simp; rfl)); intro gb155 hg w65 hbox hb; have n0_ := aM (blk_below (bX BK145.out) hb); have n1_ := aM (blk_below (bX BK146.out) hb); have n2_ := aM (show (x700_1 = true → _ ∧ _) from fun h_ => ⟨blk_below (o := .cells #[.int .i64 x701_1, .int .i64 x702_1, .int .i64 x703_1, .int .i64 x704_1] 84 (0, 0)) (by (with_reducible repeat first | apply bN | apply bD | apply bA); exact (OB142.out h_).1) hb, (OB142.out h_).2⟩); have n3_ := aM (below_step (by repeat (first | (with_reducible first | exact HB.out | apply lA | apply lN | apply lD | refine lS ?_ GE145.out | refine lS ?_ GE146.out) | exact HB.out)) hb); have n4_ := aM (hbox); have n5_ := aM ((by rw [hg]; exact (below_size (by repeat (first | (with_reducible first | exact HB.out | apply lA | apply lN | apply lD | refine lS ?_ GE145.out | refine lS ?_ GE146.out) | exact HB.out))) : w.heap.size ≤ gb155)); have n6_ := aM ((by rw [hg]; exact (below_size (by repeat (first | (with_reducible first | exact HB.out | apply lA | apply lN | apply lD | refine lS ?_ GE145.out | refine lS ?_ GE146.out) | exact HB.out))) : w.heap.size ≤ gb155)); have n7_ := aM ((by rw [hg]; exact Nat.ne_of_lt (blk_lt (bX BK145.out)) : gb145 ≠ gb155)); have n8_ := aM ((by rw [hg]; exact Nat.ne_of_gt (blk_lt (bX BK145.out)) : gb155 ≠ gb145)); have n9_ := aM ((by rw [hg]; exact Nat.ne_of_lt (blk_lt (bX BK146.out)) : gb146 ≠ gb155)); have n10_ := aM ((by rw [hg]; exact Nat.ne_of_gt (blk_lt (bX BK146.out)) : gb155 ≠ gb146)); have n11_ := aM (show (x700_1 = true → go3_1 ≠ gb155) from fun h_ => by rw [hg]; exact Nat.ne_of_lt (blk_lt (o := .cells #[.int .i64 x701_1, .int .i64 x702_1, .int .i64 x703_1, .int .i64 x704_1] 84 (0, 0)) (by (with_reducible repeat first | apply bN | apply bD | apply bA); exact (OB142.out h_).1))); clear BK145; clear BK146; clear OB142; clear HB; have BK145 := n0_; have BK146 := n1_; have OB142 := n2_; have HB := n3_; have BK155 := n4_; have GW155 := n5_; have GE155 := n6_; have NB145_155 := n7_; have NB155_145 := n8_; have NB146_155 := n9_; have NB155_146 := n10_; have NO142_155 := n11_; clear n0_ n1_ n2_ n3_ n4_ n5_ n6_ n7_ n8_ n9_ n10_ n11_; clear hb hbox hg; have hnb66 := NB155_145.out; have hnc66 := NB145_155.out; have hnb67 := NB155_146.out; have hnc67 := NB146_155.out; obtain ⟨hcz68_0, hcz68_1, hcz68_2, hcz68_3⟩ := blkC4 BK155.out; obtain ⟨hfz68_0, hfz68_1, hfz68_2, hfz68_3⟩ := blkF4 BK155.out))
            go_roundg kj11
            case measure => have := HK1.out; have := HK2.out; have := HJ11.out; omega
            case rel => exact ⟨(wrap64 (x7_2 + 1)), rfl, (by first | rfl | (simp; done) | (simp [*]; done)), ⟨fun h_ => ⟨by (with_reducible repeat first | apply bN | apply bD | apply bA); refine blk_far ?_ (NO142_155.out h_) _; (with_reducible repeat first | apply bN | apply bD | apply bA); refine blk_far ?_ (NO142_155.out h_) _; (with_reducible repeat first | apply bN | apply bD | apply bA); refine blk_far ?_ (NO142_155.out h_) _; (with_reducible repeat first | apply bN | apply bD | apply bA); refine blk_far ?_ (NO142_155.out h_) _; (with_reducible repeat first | apply bN | apply bD | apply bA); exact (OB142.out h_).1, (OB142.out h_).2⟩⟩, H', ⟨by have := HK1.out; have := HK2.out; have := HJ11.out; omega⟩, ⟨by (with_reducible repeat first | apply bN | apply bD | apply bA); refine blk_far ?_ NB145_155.out _; (with_reducible repeat first | apply bN | apply bD | apply bA); refine blk_far ?_ NB145_155.out _; (with_reducible repeat first | apply bN | apply bD | apply bA); refine blk_far ?_ NB145_155.out _; (with_reducible repeat first | apply bN | apply bD | apply bA); refine blk_far ?_ NB145_155.out _; (with_reducible repeat first | apply bN | apply bD | apply bA); exact BK145.out⟩, ⟨by (with_reducible repeat first | apply bN | apply bD | apply bA); refine blk_far ?_ NB146_155.out _; (with_reducible repeat first | apply bN | apply bD | apply bA); refine blk_far ?_ NB146_155.out _; (with_reducible repeat first | apply bN | apply bD | apply bA); refine blk_far ?_ NB146_155.out _; (with_reducible repeat first | apply bN | apply bD | apply bA); refine blk_far ?_ NB146_155.out _; (with_reducible repeat first | apply bN | apply bD | apply bA); exact BK146.out⟩, ⟨by repeat (first | (with_reducible first | exact HB.out | apply lA | apply lN | apply lD | refine lS ?_ GE145.out | refine lS ?_ GE146.out | refine lS ?_ GE155.out) | exact HB.out)⟩⟩
          ·replace c23 := Bool.eq_false_iff.mpr c23
           subst c23
           have H1 : (expand_Letter.l0 kj11 l0 l0 (l0.length : Int) (wrap64 (x12_1 + 1)) x700_1 x701_1 x702_1 x703_1 x704_1) = some r := by rw [if_neg (show ¬ (false = true) by decide)] at H; exact H
           clear H
           have H := H1
           clear H1
           have H' := aM H
           clear H
           go_wp2
           go_roundg kj11
           case measure => have := HK1.out; have := HK2.out; have := HJ11.out; omega
           case rel => exact ⟨(wrap64 (x12_1 + 1)), (x700_1), (x701_1), (x702_1), (x703_1), (x704_1), (go3_1), rfl, (by first | rfl | (simp; done) | (simp [*]; done)), ⟨fun h_ => ⟨by (with_reducible repeat first | apply bN | apply bD | apply bA); exact (OB142.out h_).1, (OB142.out h_).2⟩⟩, H', ⟨by have := HK1.out; have := HK2.out; have := HJ11.out; omega⟩, ⟨by repeat (first | (with_reducible first | exact HB.out | apply lA | apply lN | apply lD | refine lS ?_ GE145.out | refine lS ?_ GE146.out) | exact HB.out)⟩⟩
     ·rw [if_neg c4] at H
      exact absurd H (by simp)
    ·rw [if_neg c3] at H
     exact absurd H (by simp)
   ·rw [if_neg c2] at H
    have c2b0 : decide (x12_1 < (l0.length : Int)) = false := decide_eq_false c2
    clear c2
    by_cases c69 : x700_1 = true
    ·subst c69
     have H1 : (if 0 ≤ x701_1 then (if x701_1 < (l0.length : Int) then (some ((rd_T53 l0 x701_1).f7)) else (none)) else (none)) = some r := by rw [if_pos rfl] at H; exact H
     clear H
     have H := H1
     clear H1
     try simp only [optP_true, optP_false]
     have BK142 := aM (OB142.out rfl).1
     have GW142 := aM (OB142.out rfl).2
     have GE142 := GW142
     clear OB142
     by_cases c70 : 0 ≤ x701_1
     ·rw [if_pos c70] at H
      have c70b0 : decide (0 ≤ x701_1) = true := decide_eq_true c70
      clear c70
      by_cases c71 : x701_1 < (l0.length : Int)
      ·rw [if_pos c71] at H
       have c71b0 : decide (x701_1 < (l0.length : Int)) = true := decide_eq_true c71
       clear c71
       obtain rfl := Option.some.inj H
       obtain ⟨hcz72_0, hcz72_1, hcz72_2, hcz72_3⟩ := blkC4 BK142.out
       obtain ⟨hfz72_0, hfz72_1, hfz72_2, hfz72_3⟩ := blkF4 BK142.out
       have p143 : 0 ≤ (x701_1 : Int) := of_decide_eq_true (by assumption)
       have q143 : x701_1 < (l0.length : Int) := of_decide_eq_true (by assumption)
       obtain ⟨ad143, e143, hx143_0, hx143_1, hx143_2, hx143_3, hx143_4, hx143_5, hx143_6, hx143_7, hx143_8, hx143_9, hx143_10⟩ := at_T53 HR0.out x701_1 p143 q143
       cases e143
       replace hx143_0 := (HB.out.cell (wB w _ hx143_0)).trans hx143_0
       replace hx143_1 := (HB.out.cell (wB w _ hx143_1)).trans hx143_1
       replace hx143_2 := (HB.out.cell (wB w _ hx143_2)).trans hx143_2
       replace hx143_3 := (HB.out.cell (wB w _ hx143_3)).trans hx143_3
       replace hx143_4 := (HB.out.cell (wB w _ hx143_4)).trans hx143_4
       replace hx143_5 := (HB.out.cell (wB w _ hx143_5)).trans hx143_5
       replace hx143_6 := (HB.out.cell (wB w _ hx143_6)).trans hx143_6
       replace hx143_7 := (HB.out.cell (wB w _ hx143_7)).trans hx143_7
       replace hx143_8 := (HB.out.cell (wB w _ hx143_8)).trans hx143_8
       replace hx143_9 := (HB.out.cell (wB w _ hx143_9)).trans hx143_9
       replace hx143_10 := (HB.out.cell (wB w _ hx143_10)).trans hx143_10
       replace p143 := eq_true p143
       replace q143 := eq_true q143
       go_wp2
       go_ret
       exact ⟨by first | rfl | (simp [errW_none, errW_some] <;> rfl) | (simp [*, errW_none, errW_some] <;> rfl), by repeat (first | (with_reducible first | exact HB.out | apply lA | apply lN | apply lD | refine lS ?_ GE142.out) | exact HB.out)⟩
      ·rw [if_neg c71] at H
       exact absurd H (by simp)
     ·rw [if_neg c70] at H
      exact absurd H (by simp)
    ·replace c69 := Bool.eq_false_iff.mpr c69
     subst c69
     have H1 : (some (⟨#[]⟩ : ByteArray)) = some r := by rw [if_neg (show ¬ (false = true) by decide)] at H; exact H
     clear H
     have H := H1
     clear H1
     try simp only [optP_true, optP_false]
     clear OB142
     obtain rfl := Option.some.inj H
     go_wp2
     go_ret
     exact ⟨by first | rfl | (simp [errW_none, errW_some] <;> rfl) | (simp [*, errW_none, errW_some] <;> rfl), by repeat (first | (with_reducible first | exact HB.out | apply lA | apply lN | apply lD) | exact HB.out)⟩
end Go.Proofs.Ytadamegddcadcaa.PDen
