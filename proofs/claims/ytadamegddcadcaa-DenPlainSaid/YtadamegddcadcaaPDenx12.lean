import Derived.Test.YtadamegddcadcaaPDenx0
import Derived.Test.YtadamegddcadcaaPDenx2
import Derived.Test.YtadamegddcadcaaPDenx6
import Derived.Test.YtadamegddcadcaaPDenx7
import Derived.Test.YtadamegddcadcaaPDenx10
import Derived.Test.YtadamegddcadcaaPDenx11
namespace Go.Proofs.Ytadamegddcadcaa.PDen
open Go.Proofs.YtadamegddcadcaaV Go.RowKit Go.Proofs.YtadamegddcadcaaW.PrintWords Go.Proofs.YtadamegddcadcaaW.PrintLast Go.Proofs.YtadamegddcadcaaW.PrintMore
attribute [local go_sem] max2_int min2_int max_two min_two max_three min_three max_four min_four
set_option linter.unusedVariables false
set_option linter.unusedSimpArgs false
mutual
def den_Saving.j0 : Nat → List (S53) → Int → Int → Int → Bool → Option (Int × ByteArray)
 | 0, _, _, _, _, _ => none
 | k + 1, x0, x1, x2, x8, x29 => if x29 = true then ((expand_Letter.f k x0).bind fun t202 => (some (0, t202))) else ((expand_Span.f k x0).bind fun bt203 => (if bt203.2.2 = true then (den_Saving.j1 k x0 x1 x2 bt203.1 (mn (wrap64 (x8 + 1)) 9999)) else (den_Saving.j1 k x0 x1 x2 bt203.1 (mn (mn (wrap64 (x8 + 1)) 9999) bt203.2.1))))
def den_Saving.j1 : Nat → List (S53) → Int → Int → Int → Int → Option (Int × ByteArray)
 | 0, _, _, _, _, _ => none
 | k + 1, x0, x1, x2, x10, x13 => den_Saving.l0 k x0 x1 x2 x10 x13
def den_Saving.l0 : Nat → List (S53) → Int → Int → Int → Int → Option (Int × ByteArray)
 | 0, _, _, _, _, _ => none
 | k + 1, x0, x1, x2, x10, x14 => if x14 ≥ x10 then ((expand_From.f k x0 (wrap64 (x14 - 7)) x14).bind fun t207 => (den_Saving.l1 k x0 x1 x2 x10 x14 t207 (wrap64 ((t207.length : Int) - 1)))) else ((expand_Letter.f k x0).bind fun t206 => (some (0, t206)))
def den_Saving.l1 : Nat → List (S53) → Int → Int → Int → Int → List (S84) → Int → Option (Int × ByteArray)
 | 0, _, _, _, _, _, _, _ => none
 | k + 1, x0, x1, x2, x10, x14, x15, x16 => if x16 ≥ 0 then (if 0 ≤ x16 then (if x16 < (x15.length : Int) then ((expand_Instant.f k x0 ((rd_T84 x15 x16).f0) ((rd_T84 x15 x16).f1) ((rd_T84 x15 x16).f2) ((rd_T84 x15 x16).f3) x1).bind fun t211 => (if t211 ≤ x2 then (if 0 ≤ ((rd_T84 x15 x16).f0) then (if ((rd_T84 x15 x16).f0) < (x0.length : Int) then (some ((rd_T53 x0 ((rd_T84 x15 x16).f0)).f6, (rd_T53 x0 ((rd_T84 x15 x16).f0)).f7)) else (none)) else (none)) else (den_Saving.l1 k x0 x1 x2 x10 x14 x15 (wrap64 (x16 - 1))))) else (none)) else (none)) else (den_Saving.l0 k x0 x1 x2 x10 (wrap64 (x14 - 8)))
end
def den_Saving.f (k : Nat) (l0 : List (S53)) (a1 : Int) (a2 : Int) : Option (Int × ByteArray) := (den_year.f k a2).bind fun bt200 => (if bt200.2 = true then (den_Saving.j0 k l0 a1 a2 bt200.1 ((l0.length : Int) == 0)) else (den_Saving.j0 k l0 a1 a2 bt200.1 true))
theorem den_Saving.mono_l : ∀ k, (∀ y0 y1 y2 y3 y4, LeO (den_Saving.j0 k y0 y1 y2 y3 y4) (den_Saving.j0 (k + 1) y0 y1 y2 y3 y4)) ∧ (∀ y0 y1 y2 y3 y4, LeO (den_Saving.j1 k y0 y1 y2 y3 y4) (den_Saving.j1 (k + 1) y0 y1 y2 y3 y4)) ∧ (∀ y0 y1 y2 y3 y4, LeO (den_Saving.l0 k y0 y1 y2 y3 y4) (den_Saving.l0 (k + 1) y0 y1 y2 y3 y4)) ∧ (∀ y0 y1 y2 y3 y4 y5 y6, LeO (den_Saving.l1 k y0 y1 y2 y3 y4 y5 y6) (den_Saving.l1 (k + 1) y0 y1 y2 y3 y4 y5 y6))
 | 0 => ⟨fun _ _ _ _ _ r h => by simp [den_Saving.j0] at h, fun _ _ _ _ _ r h => by simp [den_Saving.j1] at h, fun _ _ _ _ _ r h => by simp [den_Saving.l0] at h, fun _ _ _ _ _ _ _ r h => by simp [den_Saving.l1] at h⟩
 | k + 1 => by
  obtain ⟨ih0, ih1, ih2, ih3⟩ := den_Saving.mono_l k
  refine ⟨?_, ?_, ?_, ?_⟩
  ·intro y0 y1 y2 y3 y4
   unfold den_Saving.j0
   repeat' first
   | (with_reducible exact ih0 _ _ _ _ _)
   | (with_reducible exact ih1 _ _ _ _ _)
   | (with_reducible exact ih2 _ _ _ _ _)
   | (with_reducible exact ih3 _ _ _ _ _ _ _)
   | (with_reducible exact den_year.mono _ _)
   | (with_reducible exact expand_From.mono _ _ _ _)
   | (with_reducible exact expand_Instant.mono _ _ _ _ _ _ _)
   | (with_reducible exact expand_Letter.mono _ _)
   | (with_reducible exact expand_Span.mono _ _)
   | (with_reducible exact LeO.refl _)
   | (with_reducible exact LeO.none _)
   | (with_reducible refine LeO.ite ?_ ?_)
   | (with_reducible refine LeO.bind ?_ (fun _ => ?_))
   | exact ih0 _ _ _ _ _
   | exact ih1 _ _ _ _ _
   | exact ih2 _ _ _ _ _
   | exact ih3 _ _ _ _ _ _ _
   | exact den_year.mono _ _
   | exact expand_From.mono _ _ _ _
   | exact expand_Instant.mono _ _ _ _ _ _ _
   | exact expand_Letter.mono _ _
   | exact expand_Span.mono _ _
   | exact LeO.none _
   | refine LeO.ite ?_ ?_
   | refine LeO.bind ?_ (fun _ => ?_)
  ·intro y0 y1 y2 y3 y4
   unfold den_Saving.j1
   repeat' first
   | (with_reducible exact ih0 _ _ _ _ _)
   | (with_reducible exact ih1 _ _ _ _ _)
   | (with_reducible exact ih2 _ _ _ _ _)
   | (with_reducible exact ih3 _ _ _ _ _ _ _)
   | (with_reducible exact den_year.mono _ _)
   | (with_reducible exact expand_From.mono _ _ _ _)
   | (with_reducible exact expand_Instant.mono _ _ _ _ _ _ _)
   | (with_reducible exact expand_Letter.mono _ _)
   | (with_reducible exact expand_Span.mono _ _)
   | (with_reducible exact LeO.refl _)
   | (with_reducible exact LeO.none _)
   | (with_reducible refine LeO.ite ?_ ?_)
   | (with_reducible refine LeO.bind ?_ (fun _ => ?_))
   | exact ih0 _ _ _ _ _
   | exact ih1 _ _ _ _ _
   | exact ih2 _ _ _ _ _
   | exact ih3 _ _ _ _ _ _ _
   | exact den_year.mono _ _
   | exact expand_From.mono _ _ _ _
   | exact expand_Instant.mono _ _ _ _ _ _ _
   | exact expand_Letter.mono _ _
   | exact expand_Span.mono _ _
   | exact LeO.none _
   | refine LeO.ite ?_ ?_
   | refine LeO.bind ?_ (fun _ => ?_)
  ·intro y0 y1 y2 y3 y4
   unfold den_Saving.l0
   repeat' first
   | (with_reducible exact ih0 _ _ _ _ _)
   | (with_reducible exact ih1 _ _ _ _ _)
   | (with_reducible exact ih2 _ _ _ _ _)
   | (with_reducible exact ih3 _ _ _ _ _ _ _)
   | (with_reducible exact den_year.mono _ _)
   | (with_reducible exact expand_From.mono _ _ _ _)
   | (with_reducible exact expand_Instant.mono _ _ _ _ _ _ _)
   | (with_reducible exact expand_Letter.mono _ _)
   | (with_reducible exact expand_Span.mono _ _)
   | (with_reducible exact LeO.refl _)
   | (with_reducible exact LeO.none _)
   | (with_reducible refine LeO.ite ?_ ?_)
   | (with_reducible refine LeO.bind ?_ (fun _ => ?_))
   | exact ih0 _ _ _ _ _
   | exact ih1 _ _ _ _ _
   | exact ih2 _ _ _ _ _
   | exact ih3 _ _ _ _ _ _ _
   | exact den_year.mono _ _
   | exact expand_From.mono _ _ _ _
   | exact expand_Instant.mono _ _ _ _ _ _ _
   | exact expand_Letter.mono _ _
   | exact expand_Span.mono _ _
   | exact LeO.none _
   | refine LeO.ite ?_ ?_
   | refine LeO.bind ?_ (fun _ => ?_)
  ·intro y0 y1 y2 y3 y4 y5 y6
   unfold den_Saving.l1
   repeat' first
   | (with_reducible exact ih0 _ _ _ _ _)
   | (with_reducible exact ih1 _ _ _ _ _)
   | (with_reducible exact ih2 _ _ _ _ _)
   | (with_reducible exact ih3 _ _ _ _ _ _ _)
   | (with_reducible exact den_year.mono _ _)
   | (with_reducible exact expand_From.mono _ _ _ _)
   | (with_reducible exact expand_Instant.mono _ _ _ _ _ _ _)
   | (with_reducible exact expand_Letter.mono _ _)
   | (with_reducible exact expand_Span.mono _ _)
   | (with_reducible exact LeO.refl _)
   | (with_reducible exact LeO.none _)
   | (with_reducible refine LeO.ite ?_ ?_)
   | (with_reducible refine LeO.bind ?_ (fun _ => ?_))
   | exact ih0 _ _ _ _ _
   | exact ih1 _ _ _ _ _
   | exact ih2 _ _ _ _ _
   | exact ih3 _ _ _ _ _ _ _
   | exact den_year.mono _ _
   | exact expand_From.mono _ _ _ _
   | exact expand_Instant.mono _ _ _ _ _ _ _
   | exact expand_Letter.mono _ _
   | exact expand_Span.mono _ _
   | exact LeO.none _
   | refine LeO.ite ?_ ?_
   | refine LeO.bind ?_ (fun _ => ?_)
theorem den_Saving.mono : ∀ a0 a1 a2 k, LeO (den_Saving.f k a0 a1 a2) (den_Saving.f (k + 1) a0 a1 a2) := by
 intro a0 a1 a2 k
 obtain ⟨ih0, ih1, ih2, ih3⟩ := den_Saving.mono_l k
 unfold den_Saving.f
 repeat' first
   | (with_reducible exact ih0 _ _ _ _ _)
   | (with_reducible exact ih1 _ _ _ _ _)
   | (with_reducible exact ih2 _ _ _ _ _)
   | (with_reducible exact ih3 _ _ _ _ _ _ _)
   | (with_reducible exact den_year.mono _ _)
   | (with_reducible exact expand_From.mono _ _ _ _)
   | (with_reducible exact expand_Instant.mono _ _ _ _ _ _ _)
   | (with_reducible exact expand_Letter.mono _ _)
   | (with_reducible exact expand_Span.mono _ _)
   | (with_reducible exact LeO.refl _)
   | (with_reducible exact LeO.none _)
   | (with_reducible refine LeO.ite ?_ ?_)
   | (with_reducible refine LeO.bind ?_ (fun _ => ?_))
   | exact ih0 _ _ _ _ _
   | exact ih1 _ _ _ _ _
   | exact ih2 _ _ _ _ _
   | exact ih3 _ _ _ _ _ _ _
   | exact den_year.mono _ _
   | exact expand_From.mono _ _ _ _
   | exact expand_Instant.mono _ _ _ _ _ _ _
   | exact expand_Letter.mono _ _
   | exact expand_Span.mono _ _
   | exact LeO.none _
   | refine LeO.ite ?_ ?_
   | refine LeO.bind ?_ (fun _ => ?_)
set_option maxHeartbeats 8000000 in
set_option maxRecDepth 100000 in
theorem den_Saving.calls (k : Nat) (A0 : Option Addr) (c0 : Nat) (l0 : List (S53)) (a1 : Int) (a2 : Int) (r1 : Int) (r2 : ByteArray) (w : World) (hr0 : Kd.C k53 w A0 l0.length l0) (hc0 : l0.length ≤ c0) (h : den_Saving.f k l0 a1 a2 = some (r1, r2)) :
  Calls Try.prog 24 #[.slice A0 l0.length c0, .int .i64 a1, .int .i64 a2] w fun e w' => e = .returned (.tuple #[.int .i64 r1, .string r2]) ∧ Below w.heap.size w w' := by
 have hu84 := Try.underlying84
 have hu53 := Try.underlying53
 have HR0 := aM hr0
 have HC0 := aM hc0
 clear hr0 hc0
 have HB := aM (Below.refl w.heap.size w)
 have H : ((den_year.f k a2).bind fun bt200 => (if bt200.2 = true then (den_Saving.j0 k l0 a1 a2 bt200.1 ((l0.length : Int) == 0)) else (den_Saving.j0 k l0 a1 a2 bt200.1 true))) = some (r1, r2) := h
 clear h
 replace H := Option.bind_eq_some_iff.mp H
 obtain ⟨⟨t200, t201⟩, A40, H⟩ := H
 replace H : (if t201 = true then (den_Saving.j0 k l0 a1 a2 t200 ((l0.length : Int) == 0)) else (den_Saving.j0 k l0 a1 a2 t200 true)) = some (r1, r2) := H
 have A4 := aM A40
 clear A40
 have HC5 := aM H
 clear H
 go_enter Try.func24, Try.ntmps24
 go_upto_region 2 with (first | (go_at_call 14; (with_reducible refine (den_year.calls k a2 t200 t201 _ A4.out).mono ?_); rintro e w6 ⟨rfl, hb⟩; have n0_ := aM (below_step (by repeat (first | (with_reducible first | exact HB.out | apply lA | apply lN | apply lD) | exact HB.out)) hb); clear HB; have HB := n0_; clear n0_; (try clear hb); (try clear hb2); (try clear hk); (try clear hi)))
 repeat (go_quiet (first | (go_at_call 14; (with_reducible refine (den_year.calls k a2 t200 t201 _ A4.out).mono ?_); rintro e w6 ⟨rfl, hb⟩; have n0_ := aM (below_step (by repeat (first | (with_reducible first | exact HB.out | apply lA | apply lN | apply lD) | exact HB.out)) hb); clear HB; have HB := n0_; clear n0_; (try clear hb); (try clear hb2); (try clear hk); (try clear hi))); go_upto_region 2 with (first | (go_at_call 14; (with_reducible refine (den_year.calls k a2 t200 t201 _ A4.out).mono ?_); rintro e w6 ⟨rfl, hb⟩; have n0_ := aM (below_step (by repeat (first | (with_reducible first | exact HB.out | apply lA | apply lN | apply lD) | exact HB.out)) hb); clear HB; have HB := n0_; clear n0_; (try clear hb); (try clear hb2); (try clear hk); (try clear hi))))
 (try simp only [Act.put, sA, sZ, sS])
 go_cut [29] (fun v29 wc => ∃ (kq : Nat) (x29_4 : Bool), v29 = .bool x29_4 ∧ Aside0 (den_Saving.j0 kq l0 a1 a2 t200 x29_4 = some (r1, r2)) ∧ Aside0 (kq ≤ k) ∧ Aside0 (Below w.heap.size w wc))
 case first =>
  have H := HC5.out
  clear HC5
  by_cases c7 : t201 = true
  ·subst c7
   have H1 : (den_Saving.j0 k l0 a1 a2 t200 ((l0.length : Int) == 0)) = some (r1, r2) := by rw [if_pos rfl] at H; exact H
   clear H
   have H := H1
   clear H1
   have H' := aM H
   clear H
   go_wp2
   repeat (go_quiet (fail); try go_wp2)
   go_meet
   case rel => exact ⟨_, (((l0.length : Int) == 0)), (by first | rfl | (simp; done) | (simp [*]; done)), H', ⟨by first | omega | exact Nat.le_refl _⟩, ⟨by repeat (first | (with_reducible first | exact HB.out | apply lA | apply lN | apply lD) | exact HB.out)⟩⟩
  ·replace c7 := Bool.eq_false_iff.mpr c7
   subst c7
   have H1 : (den_Saving.j0 k l0 a1 a2 t200 true) = some (r1, r2) := by rw [if_neg (show ¬ (false = true) by decide)] at H; exact H
   clear H
   have H := H1
   clear H1
   have H' := aM H
   clear H
   go_wp2
   repeat (go_quiet (fail); try go_wp2)
   go_meet
   case rel => exact ⟨_, (true), (by first | rfl | (simp; done) | (simp [*]; done)), H', ⟨by first | omega | exact Nat.le_refl _⟩, ⟨by repeat (first | (with_reducible first | exact HB.out | apply lA | apply lN | apply lD) | exact HB.out)⟩⟩
 case rest =>
  clear HC5
  try clear c2; try clear p2; try clear c7
  obtain ⟨kq, x29_4, rfl, HA, HJ4, HB⟩ := hcut
  cases kq with
  | zero => exact absurd HA.out (by simp [den_Saving.j0])
  | succ kj4 =>
   have H := HA.out
   clear HA
   simp only [den_Saving.j0] at H
   by_cases c8 : x29_4 = true
   ·subst c8
    have H1 : ((expand_Letter.f kj4 l0).bind fun t202 => (some (0, t202))) = some (r1, r2) := by rw [if_pos rfl] at H; exact H
    clear H
    have H := H1
    clear H1
    replace H := Option.bind_eq_some_iff.mp H
    obtain ⟨t202, A90, H⟩ := H
    replace H : (some (0, t202)) = some (r1, r2) := H
    have A9 := aM A90
    clear A90
    simp only [Option.some.injEq, Prod.mk.injEq] at H
    obtain ⟨rfl, rfl⟩ := H
    go_wp2_with (first | (go_at_call 36; (with_reducible refine (expand_Letter.calls kj4 _ _ l0 t202 _ ?side1 ?side2 A9.out).mono ?_); (case side1 => repeat (first | exact (Kd.C_below HR0.out HB.out) | (with_reducible refine Kd.C_alloc ?_ _) | (with_reducible refine Kd.C_drewN ?_ _) | (with_reducible refine Kd.C_drew ?_))); (case side2 => exact HC0.out); rintro e w10 ⟨rfl, hb⟩; have n0_ := aM (below_step (by repeat (first | (with_reducible first | exact HB.out | apply lA | apply lN | apply lD) | exact HB.out)) hb); clear HB; have HB := n0_; clear n0_; (try clear hb); (try clear hb2); (try clear hk); (try clear hi)))
    repeat (go_quiet (first | (go_at_call 36; (with_reducible refine (expand_Letter.calls kj4 _ _ l0 t202 _ ?side1 ?side2 A9.out).mono ?_); (case side1 => repeat (first | exact (Kd.C_below HR0.out HB.out) | (with_reducible refine Kd.C_alloc ?_ _) | (with_reducible refine Kd.C_drewN ?_ _) | (with_reducible refine Kd.C_drew ?_))); (case side2 => exact HC0.out); rintro e w10 ⟨rfl, hb⟩; have n0_ := aM (below_step (by repeat (first | (with_reducible first | exact HB.out | apply lA | apply lN | apply lD) | exact HB.out)) hb); clear HB; have HB := n0_; clear n0_; (try clear hb); (try clear hb2); (try clear hk); (try clear hi))); try go_wp2_with (first | (go_at_call 36; (with_reducible refine (expand_Letter.calls kj4 _ _ l0 t202 _ ?side1 ?side2 A9.out).mono ?_); (case side1 => repeat (first | exact (Kd.C_below HR0.out HB.out) | (with_reducible refine Kd.C_alloc ?_ _) | (with_reducible refine Kd.C_drewN ?_ _) | (with_reducible refine Kd.C_drew ?_))); (case side2 => exact HC0.out); rintro e w10 ⟨rfl, hb⟩; have n0_ := aM (below_step (by repeat (first | (with_reducible first | exact HB.out | apply lA | apply lN | apply lD) | exact HB.out)) hb); clear HB; have HB := n0_; clear n0_; (try clear hb); (try clear hb2); (try clear hk); (try clear hi))))
    go_ret2
    exact ⟨by first | rfl | (simp [errW_none, errW_some] <;> rfl) | (simp [*, errW_none, errW_some] <;> rfl), by repeat (first | (with_reducible first | exact HB.out | apply lA | apply lN | apply lD) | exact HB.out)⟩
   ·replace c8 := Bool.eq_false_iff.mpr c8
    subst c8
    have H1 : ((expand_Span.f kj4 l0).bind fun bt203 => (if bt203.2.2 = true then (den_Saving.j1 kj4 l0 a1 a2 bt203.1 (mn (wrap64 (t200 + 1)) 9999)) else (den_Saving.j1 kj4 l0 a1 a2 bt203.1 (mn (mn (wrap64 (t200 + 1)) 9999) bt203.2.1)))) = some (r1, r2) := by rw [if_neg (show ¬ (false = true) by decide)] at H; exact H
    clear H
    have H := H1
    clear H1
    replace H := Option.bind_eq_some_iff.mp H
    obtain ⟨⟨t203, t204, t205⟩, A110, H⟩ := H
    replace H : (if t205 = true then (den_Saving.j1 kj4 l0 a1 a2 t203 (mn (wrap64 (t200 + 1)) 9999)) else (den_Saving.j1 kj4 l0 a1 a2 t203 (mn (mn (wrap64 (t200 + 1)) 9999) t204))) = some (r1, r2) := H
    have A11 := aM A110
    clear A110
    obtain ⟨ji12, hji12⟩ : ∃ j_ : Int, (mn (wrap64 (t200 + 1)) 9999) = j_ := ⟨_, rfl⟩
    replace H : (if t205 = true then (den_Saving.j1 kj4 l0 a1 a2 t203 ji12) else (den_Saving.j1 kj4 l0 a1 a2 t203 (mn (ji12) t204))) = some (r1, r2) := by first | (rw [hji12] at H; exact H) | (simp only [hji12] at H ⊢; exact H)
    (try rw [hji12] at A11)
    have hji12_ : (if 9999 < (wrap64 (t200 + 1)) then 9999 else (wrap64 (t200 + 1))) = ji12 := hji12
    have HC13 := aM H
    clear H
    go_upto_if 42 with (first | (go_at_call 37; (with_reducible refine (expand_Span.calls kj4 _ _ l0 t203 t204 t205 _ ?side1 ?side2 A11.out).mono ?_); (case side1 => repeat (first | exact (Kd.C_below HR0.out HB.out) | (with_reducible refine Kd.C_alloc ?_ _) | (with_reducible refine Kd.C_drewN ?_ _) | (with_reducible refine Kd.C_drew ?_))); (case side2 => exact HC0.out); rintro e w14 ⟨rfl, hb⟩; have n0_ := aM (below_step (by repeat (first | (with_reducible first | exact HB.out | apply lA | apply lN | apply lD) | exact HB.out)) hb); clear HB; have HB := n0_; clear n0_; (try clear hb); (try clear hb2); (try clear hk); (try clear hi)))
    repeat (go_quiet (first | (go_at_call 37; (with_reducible refine (expand_Span.calls kj4 _ _ l0 t203 t204 t205 _ ?side1 ?side2 A11.out).mono ?_); (case side1 => repeat (first | exact (Kd.C_below HR0.out HB.out) | (with_reducible refine Kd.C_alloc ?_ _) | (with_reducible refine Kd.C_drewN ?_ _) | (with_reducible refine Kd.C_drew ?_))); (case side2 => exact HC0.out); rintro e w14 ⟨rfl, hb⟩; have n0_ := aM (below_step (by repeat (first | (with_reducible first | exact HB.out | apply lA | apply lN | apply lD) | exact HB.out)) hb); clear HB; have HB := n0_; clear n0_; (try clear hb); (try clear hb2); (try clear hk); (try clear hi))); go_upto_if 42 with (first | (go_at_call 37; (with_reducible refine (expand_Span.calls kj4 _ _ l0 t203 t204 t205 _ ?side1 ?side2 A11.out).mono ?_); (case side1 => repeat (first | exact (Kd.C_below HR0.out HB.out) | (with_reducible refine Kd.C_alloc ?_ _) | (with_reducible refine Kd.C_drewN ?_ _) | (with_reducible refine Kd.C_drew ?_))); (case side2 => exact HC0.out); rintro e w14 ⟨rfl, hb⟩; have n0_ := aM (below_step (by repeat (first | (with_reducible first | exact HB.out | apply lA | apply lN | apply lD) | exact HB.out)) hb); clear HB; have HB := n0_; clear n0_; (try clear hb); (try clear hb2); (try clear hk); (try clear hi))))
    (try simp only [Act.put, sA, sZ, sS])
    go_cut [13] (fun v13 wc => ∃ (kq : Nat) (x13_12 : Int), v13 = .int .i64 x13_12 ∧ Aside0 (den_Saving.j1 kq l0 a1 a2 t203 x13_12 = some (r1, r2)) ∧ Aside0 (kq ≤ kj4) ∧ Aside0 (Below w.heap.size w wc))
    case first =>
     have H := HC13.out
     clear HC13
     by_cases c15 : t205 = true
     ·subst c15
      have H1 : (den_Saving.j1 kj4 l0 a1 a2 t203 ji12) = some (r1, r2) := by rw [if_pos rfl] at H; exact H
      clear H
      have H := H1
      clear H1
      have H' := aM H
      clear H
      go_wp2
      repeat (go_quiet (fail); try go_wp2)
      go_meet
      case rel => exact ⟨_, (ji12), (by first | rfl | (simp; done) | (simp only [← hji12] <;> (first | rfl | (simp; done))) | (simp [*]; done) | (simp only [← hji12, mx, mn]; (repeat' split) <;> first | omega | (simp_all; done) | (simp_all; omega))), H', ⟨by have := HJ4.out; first | omega | exact Nat.le_refl _⟩, ⟨by repeat (first | (with_reducible first | exact HB.out | apply lA | apply lN | apply lD) | exact HB.out)⟩⟩
     ·replace c15 := Bool.eq_false_iff.mpr c15
      subst c15
      have H1 : (den_Saving.j1 kj4 l0 a1 a2 t203 (mn (ji12) t204)) = some (r1, r2) := by rw [if_neg (show ¬ (false = true) by decide)] at H; exact H
      clear H
      have H := H1
      clear H1
      obtain ⟨ji16, hji16⟩ : ∃ j_ : Int, (mn (ji12) t204) = j_ := ⟨_, rfl⟩
      replace H : (den_Saving.j1 kj4 l0 a1 a2 t203 ji16) = some (r1, r2) := by first | (rw [hji16] at H; exact H) | (simp only [hji16] at H ⊢; exact H)
      have hji16_ : (if t204 < (ji12) then t204 else (ji12)) = ji16 := hji16
      have H' := aM H
      clear H
      go_wp2
      repeat (go_quiet (fail); try go_wp2)
      go_meet
      case rel => exact ⟨_, (ji16), (by first | rfl | (simp; done) | (simp only [← hji16] <;> (first | rfl | (simp; done))) | (simp [*]; done) | (simp only [← hji12, ← hji16, mx, mn]; (repeat' split) <;> first | omega | (simp_all; done) | (simp_all; omega))), H', ⟨by have := HJ4.out; first | omega | exact Nat.le_refl _⟩, ⟨by repeat (first | (with_reducible first | exact HB.out | apply lA | apply lN | apply lD) | exact HB.out)⟩⟩
    case rest =>
     clear HC13
     try clear c1; try clear c2; try clear p2; try clear p6; try clear c7; try clear c8; try clear c15; try clear p2
     obtain ⟨kq, x13_12, rfl, HA, HJ12, HB⟩ := hcut
     cases kq with
     | zero => exact absurd HA.out (by simp [den_Saving.j1])
     | succ kj12 =>
      have H := HA.out
      clear HA
      simp only [den_Saving.j1] at H
      have H' := aM H
      clear H
      go_wp2
      repeat (go_quiet (fail); try go_wp2)
      go_loopg [14] kj12 (fun kq v14 w' => ∃ (x14_3 : Int), v14 = .int .i64 x14_3 ∧ Aside0 (den_Saving.l0 kq l0 a1 a2 t203 x14_3 = some (r1, r2)) ∧ Aside0 (kq ≤ kj12) ∧ Aside0 (Below w.heap.size w w'))
      case atStart => exact ⟨(x13_12), (by first | rfl | (simp; done) | (simp [*]; done)), H', ⟨Nat.le_refl _⟩, ⟨by repeat (first | (with_reducible first | exact HB.out | apply lA | apply lN | apply lD) | exact HB.out)⟩⟩
      case round =>
       clear H'
       try clear c1; try clear c2; try clear p2; try clear p6; try clear c7; try clear c8; try clear c15; try clear p2; try clear p6
       obtain ⟨x14_3, rfl, HA, HK3, HB⟩ := hrel
       cases gk with
       | zero => exact absurd HA.out (by simp [den_Saving.l0])
       | succ k3 =>
        have H := HA.out
        clear HA
        simp only [den_Saving.l0] at H
        by_cases c17 : x14_3 ≥ t203
        ·rw [if_pos c17] at H
         have c17b0 : decide (t203 ≤ x14_3) = true := decide_eq_true c17
         clear c17
         replace H := Option.bind_eq_some_iff.mp H
         obtain ⟨t207, A180, H⟩ := H
         replace H : (den_Saving.l1 k3 l0 a1 a2 t203 x14_3 t207 (wrap64 ((t207.length : Int) - 1))) = some (r1, r2) := H
         have A18 := aM A180
         clear A180
         have H' := aM H
         clear H
         go_wp2_with (first | (go_at_call 38; (with_reducible refine (expand_From.calls k3 _ _ l0 (wrap64 (x14_3 - 7)) x14_3 t207 _ ?side1 ?side2 A18.out).mono ?_); (case side1 => repeat (first | exact (Kd.C_below HR0.out HB.out) | (with_reducible refine Kd.C_alloc ?_ _) | (with_reducible refine Kd.C_drewN ?_ _) | (with_reducible refine Kd.C_drew ?_))); (case side2 => exact HC0.out); rintro e w19 ⟨v208, rfl, ho0, hb⟩; have n0_ := aM (Kd.R_lower ho0 (below_size (by repeat (first | (with_reducible first | exact HB.out | apply lA | apply lN | apply lD) | exact HB.out)))); have n1_ := aM (below_step (by repeat (first | (with_reducible first | exact HB.out | apply lA | apply lN | apply lD) | exact HB.out)) hb); clear HB; have HO209 := n0_; have HB := n1_; clear n0_ n1_; (try clear hb); (try clear hb2); (try clear hk); (try clear hi); (try clear ho0); obtain ⟨Ao20, co20, eo20⟩ := Kd.R_slice HO209.out; subst eo20))
         repeat (go_quiet (first | (go_at_call 38; (with_reducible refine (expand_From.calls k3 _ _ l0 (wrap64 (x14_3 - 7)) x14_3 t207 _ ?side1 ?side2 A18.out).mono ?_); (case side1 => repeat (first | exact (Kd.C_below HR0.out HB.out) | (with_reducible refine Kd.C_alloc ?_ _) | (with_reducible refine Kd.C_drewN ?_ _) | (with_reducible refine Kd.C_drew ?_))); (case side2 => exact HC0.out); rintro e w19 ⟨v208, rfl, ho0, hb⟩; have n0_ := aM (Kd.R_lower ho0 (below_size (by repeat (first | (with_reducible first | exact HB.out | apply lA | apply lN | apply lD) | exact HB.out)))); have n1_ := aM (below_step (by repeat (first | (with_reducible first | exact HB.out | apply lA | apply lN | apply lD) | exact HB.out)) hb); clear HB; have HO209 := n0_; have HB := n1_; clear n0_ n1_; (try clear hb); (try clear hb2); (try clear hk); (try clear hi); (try clear ho0); obtain ⟨Ao20, co20, eo20⟩ := Kd.R_slice HO209.out; subst eo20)); try go_wp2_with (first | (go_at_call 38; (with_reducible refine (expand_From.calls k3 _ _ l0 (wrap64 (x14_3 - 7)) x14_3 t207 _ ?side1 ?side2 A18.out).mono ?_); (case side1 => repeat (first | exact (Kd.C_below HR0.out HB.out) | (with_reducible refine Kd.C_alloc ?_ _) | (with_reducible refine Kd.C_drewN ?_ _) | (with_reducible refine Kd.C_drew ?_))); (case side2 => exact HC0.out); rintro e w19 ⟨v208, rfl, ho0, hb⟩; have n0_ := aM (Kd.R_lower ho0 (below_size (by repeat (first | (with_reducible first | exact HB.out | apply lA | apply lN | apply lD) | exact HB.out)))); have n1_ := aM (below_step (by repeat (first | (with_reducible first | exact HB.out | apply lA | apply lN | apply lD) | exact HB.out)) hb); clear HB; have HO209 := n0_; have HB := n1_; clear n0_ n1_; (try clear hb); (try clear hb2); (try clear hk); (try clear hi); (try clear ho0); obtain ⟨Ao20, co20, eo20⟩ := Kd.R_slice HO209.out; subst eo20)))
         go_loopg [16] k3 (fun kq v16 w' => ∃ (x16_4 : Int), v16 = .int .i64 x16_4 ∧ Aside0 (den_Saving.l1 kq l0 a1 a2 t203 x14_3 t207 x16_4 = some (r1, r2)) ∧ Aside0 (kq ≤ k3) ∧ Aside0 (Kd.R k84 84 w' w.heap.size (fun _ => True) (.slice Ao20 t207.length co20) t207) ∧ Aside0 (Below w.heap.size w w'))
         case atStart => exact ⟨(wrap64 ((t207.length : Int) - 1)), (by first | rfl | (simp; done) | (simp [*]; done)), H', ⟨Nat.le_refl _⟩, ⟨by (with_reducible repeat first | apply rA | apply rN | apply rD); exact HO209.out⟩, ⟨by repeat (first | (with_reducible first | exact HB.out | apply lA | apply lN | apply lD) | exact HB.out)⟩⟩
         case round =>
          clear H'
          try clear c1; try clear c2; try clear p2; try clear p6; try clear c7; try clear c8; try clear c15; try clear c17; try clear c17b0; try clear p2; try clear p6
          obtain ⟨x16_4, rfl, HA, HK4, HO_15, HB⟩ := hrel
          cases gk with
          | zero => exact absurd HA.out (by simp [den_Saving.l1])
          | succ k4 =>
           have H := HA.out
           clear HA
           simp only [den_Saving.l1] at H
           by_cases c21 : x16_4 ≥ 0
           ·rw [if_pos c21] at H
            have c21b0 : decide (0 ≤ x16_4) = true := decide_eq_true c21
            clear c21
            by_cases c22 : 0 ≤ x16_4
            ·rw [if_pos c22] at H
             have c22b0 : decide (0 ≤ x16_4) = true := decide_eq_true c22
             clear c22
             by_cases c23 : x16_4 < (t207.length : Int)
             ·rw [if_pos c23] at H
              have c23b0 : decide (x16_4 < (t207.length : Int)) = true := decide_eq_true c23
              clear c23
              replace H := Option.bind_eq_some_iff.mp H
              obtain ⟨t211, A240, H⟩ := H
              replace H : (if t211 ≤ a2 then (if 0 ≤ ((rd_T84 t207 x16_4).f0) then (if ((rd_T84 t207 x16_4).f0) < (l0.length : Int) then (some ((rd_T53 l0 ((rd_T84 t207 x16_4).f0)).f6, (rd_T53 l0 ((rd_T84 t207 x16_4).f0)).f7)) else (none)) else (none)) else (den_Saving.l1 k4 l0 a1 a2 t203 x14_3 t207 (wrap64 (x16_4 - 1)))) = some (r1, r2) := H
              have A24 := aM A240
              clear A240
              by_cases c25 : t211 ≤ a2
              ·rw [if_pos c25] at H
               have c25b0 : decide (t211 ≤ a2) = true := decide_eq_true c25
               clear c25
               by_cases c26 : 0 ≤ ((rd_T84 t207 x16_4).f0)
               ·rw [if_pos c26] at H
                have c26b0 : decide (0 ≤ ((rd_T84 t207 x16_4).f0)) = true := decide_eq_true c26
                clear c26
                by_cases c27 : ((rd_T84 t207 x16_4).f0) < (l0.length : Int)
                ·rw [if_pos c27] at H
                 have c27b0 : decide (((rd_T84 t207 x16_4).f0) < (l0.length : Int)) = true := decide_eq_true c27
                 clear c27
                 simp only [Option.some.injEq, Prod.mk.injEq] at H
                 obtain ⟨rfl, rfl⟩ := H
                 have p210 : 0 ≤ (x16_4 : Int) := of_decide_eq_true (by assumption)
                 have q210 : x16_4 < (t207.length : Int) := of_decide_eq_true (by assumption)
                 obtain ⟨ad210, e210, hx210_0, hx210_1, hx210_2, hx210_3⟩ := at_T84 (Kd.R_reads' HO_15.out).2.2 x16_4 p210 q210
                 cases e210
                 replace p210 := eq_true p210
                 replace q210 := eq_true q210
                 go_wp2_with (first | (go_at_call 39; (with_reducible refine (expand_Instant.calls k4 _ _ l0 ((rd_T84 t207 x16_4).f0) ((rd_T84 t207 x16_4).f1) ((rd_T84 t207 x16_4).f2) ((rd_T84 t207 x16_4).f3) a1 t211 _ ?side1 ?side2 A24.out).mono ?_); (case side1 => repeat (first | exact (Kd.C_below HR0.out HB.out) | (with_reducible refine Kd.C_alloc ?_ _) | (with_reducible refine Kd.C_drewN ?_ _) | (with_reducible refine Kd.C_drew ?_))); (case side2 => exact HC0.out); rintro e w28 ⟨rfl, hb⟩; have n0_ := aM (Kd.R_below (by (with_reducible repeat first | apply rA | apply rN | apply rD); exact HO_15.out) hb); have n1_ := aM (below_step (by repeat (first | (with_reducible first | exact HB.out | apply lA | apply lN | apply lD) | exact HB.out)) hb); clear HO_15; clear HB; have HO_15 := n0_; have HB := n1_; clear n0_ n1_; (try clear hb); (try clear hb2); (try clear hk); (try clear hi); have p212 : 0 ≤ (x16_4 : Int) := of_decide_eq_true (by assumption); have q212 : x16_4 < (t207.length : Int) := of_decide_eq_true (by assumption); obtain ⟨ad212, e212, hx212_0, hx212_1, hx212_2, hx212_3⟩ := at_T84 (Kd.R_reads' HO_15.out).2.2 x16_4 p212 q212; obtain rfl : ad210 = ad212 := (by injection e212); replace p212 := eq_true p212; replace q212 := eq_true q212; have p213 : 0 ≤ (((rd_T84 t207 x16_4).f0) : Int) := of_decide_eq_true (by assumption); have q213 : ((rd_T84 t207 x16_4).f0) < (l0.length : Int) := of_decide_eq_true (by assumption); obtain ⟨ad213, e213, hx213_0, hx213_1, hx213_2, hx213_3, hx213_4, hx213_5, hx213_6, hx213_7, hx213_8, hx213_9, hx213_10⟩ := at_T53 HR0.out ((rd_T84 t207 x16_4).f0) p213 q213; cases e213; replace hx213_0 := (HB.out.cell (wB w _ hx213_0)).trans hx213_0; replace hx213_1 := (HB.out.cell (wB w _ hx213_1)).trans hx213_1; replace hx213_2 := (HB.out.cell (wB w _ hx213_2)).trans hx213_2; replace hx213_3 := (HB.out.cell (wB w _ hx213_3)).trans hx213_3; replace hx213_4 := (HB.out.cell (wB w _ hx213_4)).trans hx213_4; replace hx213_5 := (HB.out.cell (wB w _ hx213_5)).trans hx213_5; replace hx213_6 := (HB.out.cell (wB w _ hx213_6)).trans hx213_6; replace hx213_7 := (HB.out.cell (wB w _ hx213_7)).trans hx213_7; replace hx213_8 := (HB.out.cell (wB w _ hx213_8)).trans hx213_8; replace hx213_9 := (HB.out.cell (wB w _ hx213_9)).trans hx213_9; replace hx213_10 := (HB.out.cell (wB w _ hx213_10)).trans hx213_10; replace p213 := eq_true p213; replace q213 := eq_true q213) | ((with_reducible refine gate_dst (N := 17) rfl ?_); (try (refine gate_guard (by rfl) ?_; dsimp only)); refine box_event ?hg (N := 17) ?hd (cs := #[.string (⟨#[]⟩ : ByteArray), .int .i64 0, .int .i64 0, .int .i64 0, .int .i64 0, .int .i64 0, .int .i64 0, .int .i64 0, .int .i64 0, .int .i64 0, .string (⟨#[]⟩ : ByteArray)]) (t := 53) ?hr ?_; (case hd => rfl); (case hg => rfl); (case hr => first | (go_simp; done) | (go_simp; rfl)); intro gb214 hg w29 hbox hb; have n0_ := aM (Kd.R_below (by (with_reducible repeat first | apply rA | apply rN | apply rD); exact HO_15.out) hb); have n1_ := aM (below_step (by repeat (first | (with_reducible first | exact HB.out | apply lA | apply lN | apply lD) | exact HB.out)) hb); have n2_ := aM (hbox); have n3_ := aM ((by rw [hg]; exact (below_size (by repeat (first | (with_reducible first | exact HB.out | apply lA | apply lN | apply lD) | exact HB.out))) : w.heap.size ≤ gb214)); have n4_ := aM ((by rw [hg]; exact (below_size (by repeat (first | (with_reducible first | exact HB.out | apply lA | apply lN | apply lD) | exact HB.out))) : w.heap.size ≤ gb214)); clear HO_15; clear HB; have HO_15 := n0_; have HB := n1_; have BK214 := n2_; have GW214 := n3_; have GE214 := n4_; clear n0_ n1_ n2_ n3_ n4_; clear hb hbox hg; obtain ⟨hcz30_0, hcz30_1, hcz30_2, hcz30_3, hcz30_4, hcz30_5, hcz30_6, hcz30_7, hcz30_8, hcz30_9, hcz30_10⟩ := blkC11 BK214.out; obtain ⟨hfz30_0, hfz30_1, hfz30_2, hfz30_3, hfz30_4, hfz30_5, hfz30_6, hfz30_7, hfz30_8, hfz30_9, hfz30_10⟩ := blkF11 BK214.out))
                 repeat (go_quiet (first | (go_at_call 39; (with_reducible refine (expand_Instant.calls k4 _ _ l0 ((rd_T84 t207 x16_4).f0) ((rd_T84 t207 x16_4).f1) ((rd_T84 t207 x16_4).f2) ((rd_T84 t207 x16_4).f3) a1 t211 _ ?side1 ?side2 A24.out).mono ?_); (case side1 => repeat (first | exact (Kd.C_below HR0.out HB.out) | (with_reducible refine Kd.C_alloc ?_ _) | (with_reducible refine Kd.C_drewN ?_ _) | (with_reducible refine Kd.C_drew ?_))); (case side2 => exact HC0.out); rintro e w28 ⟨rfl, hb⟩; have n0_ := aM (Kd.R_below (by (with_reducible repeat first | apply rA | apply rN | apply rD); exact HO_15.out) hb); have n1_ := aM (below_step (by repeat (first | (with_reducible first | exact HB.out | apply lA | apply lN | apply lD) | exact HB.out)) hb); clear HO_15; clear HB; have HO_15 := n0_; have HB := n1_; clear n0_ n1_; (try clear hb); (try clear hb2); (try clear hk); (try clear hi); have p212 : 0 ≤ (x16_4 : Int) := of_decide_eq_true (by assumption); have q212 : x16_4 < (t207.length : Int) := of_decide_eq_true (by assumption); obtain ⟨ad212, e212, hx212_0, hx212_1, hx212_2, hx212_3⟩ := at_T84 (Kd.R_reads' HO_15.out).2.2 x16_4 p212 q212; obtain rfl : ad210 = ad212 := (by injection e212); replace p212 := eq_true p212; replace q212 := eq_true q212; have p213 : 0 ≤ (((rd_T84 t207 x16_4).f0) : Int) := of_decide_eq_true (by assumption); have q213 : ((rd_T84 t207 x16_4).f0) < (l0.length : Int) := of_decide_eq_true (by assumption); obtain ⟨ad213, e213, hx213_0, hx213_1, hx213_2, hx213_3, hx213_4, hx213_5, hx213_6, hx213_7, hx213_8, hx213_9, hx213_10⟩ := at_T53 HR0.out ((rd_T84 t207 x16_4).f0) p213 q213; cases e213; replace hx213_0 := (HB.out.cell (wB w _ hx213_0)).trans hx213_0; replace hx213_1 := (HB.out.cell (wB w _ hx213_1)).trans hx213_1; replace hx213_2 := (HB.out.cell (wB w _ hx213_2)).trans hx213_2; replace hx213_3 := (HB.out.cell (wB w _ hx213_3)).trans hx213_3; replace hx213_4 := (HB.out.cell (wB w _ hx213_4)).trans hx213_4; replace hx213_5 := (HB.out.cell (wB w _ hx213_5)).trans hx213_5; replace hx213_6 := (HB.out.cell (wB w _ hx213_6)).trans hx213_6; replace hx213_7 := (HB.out.cell (wB w _ hx213_7)).trans hx213_7; replace hx213_8 := (HB.out.cell (wB w _ hx213_8)).trans hx213_8; replace hx213_9 := (HB.out.cell (wB w _ hx213_9)).trans hx213_9; replace hx213_10 := (HB.out.cell (wB w _ hx213_10)).trans hx213_10; replace p213 := eq_true p213; replace q213 := eq_true q213) | ((with_reducible refine gate_dst (N := 17) rfl ?_); (try (refine gate_guard (by rfl) ?_; dsimp only)); refine box_event ?hg (N := 17) ?hd (cs := #[.string (⟨#[]⟩ : ByteArray), .int .i64 0, .int .i64 0, .int .i64 0, .int .i64 0, .int .i64 0, .int .i64 0, .int .i64 0, .int .i64 0, .int .i64 0, .string (⟨#[]⟩ : ByteArray)]) (t := 53) ?hr ?_; (case hd => rfl); (case hg => rfl); (case hr => first | (go_simp; done) | (go_simp; rfl)); intro gb214 hg w29 hbox hb; have n0_ := aM (Kd.R_below (by (with_reducible repeat first | apply rA | apply rN | apply rD); exact HO_15.out) hb); have n1_ := aM (below_step (by repeat (first | (with_reducible first | exact HB.out | apply lA | apply lN | apply lD) | exact HB.out)) hb); have n2_ := aM (hbox); have n3_ := aM ((by rw [hg]; exact (below_size (by repeat (first | (with_reducible first | exact HB.out | apply lA | apply lN | apply lD) | exact HB.out))) : w.heap.size ≤ gb214)); have n4_ := aM ((by rw [hg]; exact (below_size (by repeat (first | (with_reducible first | exact HB.out | apply lA | apply lN | apply lD) | exact HB.out))) : w.heap.size ≤ gb214)); clear HO_15; clear HB; have HO_15 := n0_; have HB := n1_; have BK214 := n2_; have GW214 := n3_; have GE214 := n4_; clear n0_ n1_ n2_ n3_ n4_; clear hb hbox hg; obtain ⟨hcz30_0, hcz30_1, hcz30_2, hcz30_3, hcz30_4, hcz30_5, hcz30_6, hcz30_7, hcz30_8, hcz30_9, hcz30_10⟩ := blkC11 BK214.out; obtain ⟨hfz30_0, hfz30_1, hfz30_2, hfz30_3, hfz30_4, hfz30_5, hfz30_6, hfz30_7, hfz30_8, hfz30_9, hfz30_10⟩ := blkF11 BK214.out)); try go_wp2_with (first | (go_at_call 39; (with_reducible refine (expand_Instant.calls k4 _ _ l0 ((rd_T84 t207 x16_4).f0) ((rd_T84 t207 x16_4).f1) ((rd_T84 t207 x16_4).f2) ((rd_T84 t207 x16_4).f3) a1 t211 _ ?side1 ?side2 A24.out).mono ?_); (case side1 => repeat (first | exact (Kd.C_below HR0.out HB.out) | (with_reducible refine Kd.C_alloc ?_ _) | (with_reducible refine Kd.C_drewN ?_ _) | (with_reducible refine Kd.C_drew ?_))); (case side2 => exact HC0.out); rintro e w28 ⟨rfl, hb⟩; have n0_ := aM (Kd.R_below (by (with_reducible repeat first | apply rA | apply rN | apply rD); exact HO_15.out) hb); have n1_ := aM (below_step (by repeat (first | (with_reducible first | exact HB.out | apply lA | apply lN | apply lD) | exact HB.out)) hb); clear HO_15; clear HB; have HO_15 := n0_; have HB := n1_; clear n0_ n1_; (try clear hb); (try clear hb2); (try clear hk); (try clear hi); have p212 : 0 ≤ (x16_4 : Int) := of_decide_eq_true (by assumption); have q212 : x16_4 < (t207.length : Int) := of_decide_eq_true (by assumption); obtain ⟨ad212, e212, hx212_0, hx212_1, hx212_2, hx212_3⟩ := at_T84 (Kd.R_reads' HO_15.out).2.2 x16_4 p212 q212; obtain rfl : ad210 = ad212 := (by injection e212); replace p212 := eq_true p212; replace q212 := eq_true q212; have p213 : 0 ≤ (((rd_T84 t207 x16_4).f0) : Int) := of_decide_eq_true (by assumption); have q213 : ((rd_T84 t207 x16_4).f0) < (l0.length : Int) := of_decide_eq_true (by assumption); obtain ⟨ad213, e213, hx213_0, hx213_1, hx213_2, hx213_3, hx213_4, hx213_5, hx213_6, hx213_7, hx213_8, hx213_9, hx213_10⟩ := at_T53 HR0.out ((rd_T84 t207 x16_4).f0) p213 q213; cases e213; replace hx213_0 := (HB.out.cell (wB w _ hx213_0)).trans hx213_0; replace hx213_1 := (HB.out.cell (wB w _ hx213_1)).trans hx213_1; replace hx213_2 := (HB.out.cell (wB w _ hx213_2)).trans hx213_2; replace hx213_3 := (HB.out.cell (wB w _ hx213_3)).trans hx213_3; replace hx213_4 := (HB.out.cell (wB w _ hx213_4)).trans hx213_4; replace hx213_5 := (HB.out.cell (wB w _ hx213_5)).trans hx213_5; replace hx213_6 := (HB.out.cell (wB w _ hx213_6)).trans hx213_6; replace hx213_7 := (HB.out.cell (wB w _ hx213_7)).trans hx213_7; replace hx213_8 := (HB.out.cell (wB w _ hx213_8)).trans hx213_8; replace hx213_9 := (HB.out.cell (wB w _ hx213_9)).trans hx213_9; replace hx213_10 := (HB.out.cell (wB w _ hx213_10)).trans hx213_10; replace p213 := eq_true p213; replace q213 := eq_true q213) | ((with_reducible refine gate_dst (N := 17) rfl ?_); (try (refine gate_guard (by rfl) ?_; dsimp only)); refine box_event ?hg (N := 17) ?hd (cs := #[.string (⟨#[]⟩ : ByteArray), .int .i64 0, .int .i64 0, .int .i64 0, .int .i64 0, .int .i64 0, .int .i64 0, .int .i64 0, .int .i64 0, .int .i64 0, .string (⟨#[]⟩ : ByteArray)]) (t := 53) ?hr ?_; (case hd => rfl); (case hg => rfl); (case hr => first | (go_simp; done) | (go_simp; rfl)); intro gb214 hg w29 hbox hb; have n0_ := aM (Kd.R_below (by (with_reducible repeat first | apply rA | apply rN | apply rD); exact HO_15.out) hb); have n1_ := aM (below_step (by repeat (first | (with_reducible first | exact HB.out | apply lA | apply lN | apply lD) | exact HB.out)) hb); have n2_ := aM (hbox); have n3_ := aM ((by rw [hg]; exact (below_size (by repeat (first | (with_reducible first | exact HB.out | apply lA | apply lN | apply lD) | exact HB.out))) : w.heap.size ≤ gb214)); have n4_ := aM ((by rw [hg]; exact (below_size (by repeat (first | (with_reducible first | exact HB.out | apply lA | apply lN | apply lD) | exact HB.out))) : w.heap.size ≤ gb214)); clear HO_15; clear HB; have HO_15 := n0_; have HB := n1_; have BK214 := n2_; have GW214 := n3_; have GE214 := n4_; clear n0_ n1_ n2_ n3_ n4_; clear hb hbox hg; obtain ⟨hcz30_0, hcz30_1, hcz30_2, hcz30_3, hcz30_4, hcz30_5, hcz30_6, hcz30_7, hcz30_8, hcz30_9, hcz30_10⟩ := blkC11 BK214.out; obtain ⟨hfz30_0, hfz30_1, hfz30_2, hfz30_3, hfz30_4, hfz30_5, hfz30_6, hfz30_7, hfz30_8, hfz30_9, hfz30_10⟩ := blkF11 BK214.out)))
                 go_ret2
                 exact ⟨by first | rfl | (simp [errW_none, errW_some] <;> rfl) | (simp only [← hji12]; first | rfl | (simp [errW_none, errW_some] <;> rfl)) | (simp [*, errW_none, errW_some] <;> rfl), by repeat (first | (with_reducible first | exact HB.out | apply lA | apply lN | apply lD | refine lS ?_ GE214.out) | exact HB.out)⟩
                ·rw [if_neg c27] at H
                 exact absurd H (by simp)
               ·rw [if_neg c26] at H
                exact absurd H (by simp)
              ·rw [if_neg c25] at H
               have c25b0 : decide (t211 ≤ a2) = false := decide_eq_false c25
               clear c25
               have H' := aM H
               clear H
               have p210 : 0 ≤ (x16_4 : Int) := of_decide_eq_true (by assumption)
               have q210 : x16_4 < (t207.length : Int) := of_decide_eq_true (by assumption)
               obtain ⟨ad210, e210, hx210_0, hx210_1, hx210_2, hx210_3⟩ := at_T84 (Kd.R_reads' HO_15.out).2.2 x16_4 p210 q210
               cases e210
               replace p210 := eq_true p210
               replace q210 := eq_true q210
               go_wp2_with (first | (go_at_call 39; (with_reducible refine (expand_Instant.calls k4 _ _ l0 ((rd_T84 t207 x16_4).f0) ((rd_T84 t207 x16_4).f1) ((rd_T84 t207 x16_4).f2) ((rd_T84 t207 x16_4).f3) a1 t211 _ ?side1 ?side2 A24.out).mono ?_); (case side1 => repeat (first | exact (Kd.C_below HR0.out HB.out) | (with_reducible refine Kd.C_alloc ?_ _) | (with_reducible refine Kd.C_drewN ?_ _) | (with_reducible refine Kd.C_drew ?_))); (case side2 => exact HC0.out); rintro e w31 ⟨rfl, hb⟩; have n0_ := aM (Kd.R_below (by (with_reducible repeat first | apply rA | apply rN | apply rD); exact HO_15.out) hb); have n1_ := aM (below_step (by repeat (first | (with_reducible first | exact HB.out | apply lA | apply lN | apply lD) | exact HB.out)) hb); clear HO_15; clear HB; have HO_15 := n0_; have HB := n1_; clear n0_ n1_; (try clear hb); (try clear hb2); (try clear hk); (try clear hi)))
               repeat (go_quiet (first | (go_at_call 39; (with_reducible refine (expand_Instant.calls k4 _ _ l0 ((rd_T84 t207 x16_4).f0) ((rd_T84 t207 x16_4).f1) ((rd_T84 t207 x16_4).f2) ((rd_T84 t207 x16_4).f3) a1 t211 _ ?side1 ?side2 A24.out).mono ?_); (case side1 => repeat (first | exact (Kd.C_below HR0.out HB.out) | (with_reducible refine Kd.C_alloc ?_ _) | (with_reducible refine Kd.C_drewN ?_ _) | (with_reducible refine Kd.C_drew ?_))); (case side2 => exact HC0.out); rintro e w31 ⟨rfl, hb⟩; have n0_ := aM (Kd.R_below (by (with_reducible repeat first | apply rA | apply rN | apply rD); exact HO_15.out) hb); have n1_ := aM (below_step (by repeat (first | (with_reducible first | exact HB.out | apply lA | apply lN | apply lD) | exact HB.out)) hb); clear HO_15; clear HB; have HO_15 := n0_; have HB := n1_; clear n0_ n1_; (try clear hb); (try clear hb2); (try clear hk); (try clear hi))); try go_wp2_with (first | (go_at_call 39; (with_reducible refine (expand_Instant.calls k4 _ _ l0 ((rd_T84 t207 x16_4).f0) ((rd_T84 t207 x16_4).f1) ((rd_T84 t207 x16_4).f2) ((rd_T84 t207 x16_4).f3) a1 t211 _ ?side1 ?side2 A24.out).mono ?_); (case side1 => repeat (first | exact (Kd.C_below HR0.out HB.out) | (with_reducible refine Kd.C_alloc ?_ _) | (with_reducible refine Kd.C_drewN ?_ _) | (with_reducible refine Kd.C_drew ?_))); (case side2 => exact HC0.out); rintro e w31 ⟨rfl, hb⟩; have n0_ := aM (Kd.R_below (by (with_reducible repeat first | apply rA | apply rN | apply rD); exact HO_15.out) hb); have n1_ := aM (below_step (by repeat (first | (with_reducible first | exact HB.out | apply lA | apply lN | apply lD) | exact HB.out)) hb); clear HO_15; clear HB; have HO_15 := n0_; have HB := n1_; clear n0_ n1_; (try clear hb); (try clear hb2); (try clear hk); (try clear hi))))
               go_roundg k4
               case measure => have := HJ4.out; have := HJ12.out; have := HK3.out; have := HK4.out; omega
               case rel => exact ⟨(wrap64 (x16_4 - 1)), (by first | rfl | (simp; done) | (simp [*]; done)), H', ⟨by have := HJ4.out; have := HJ12.out; have := HK3.out; have := HK4.out; omega⟩, ⟨by (with_reducible repeat first | apply rA | apply rN | apply rD); exact HO_15.out⟩, ⟨by repeat (first | (with_reducible first | exact HB.out | apply lA | apply lN | apply lD) | exact HB.out)⟩⟩
             ·rw [if_neg c23] at H
              exact absurd H (by simp)
            ·rw [if_neg c22] at H
             exact absurd H (by simp)
           ·rw [if_neg c21] at H
            have c21b0 : decide (0 ≤ x16_4) = false := decide_eq_false c21
            clear c21
            have H' := aM H
            clear H
            go_wp2
            repeat (go_quiet (fail); try go_wp2)
            go_roundg k4
            case measure => have := HJ4.out; have := HJ12.out; have := HK3.out; have := HK4.out; omega
            case rel => exact ⟨(wrap64 (x14_3 - 8)), (by first | rfl | (simp; done) | (simp [*]; done)), H', ⟨by have := HJ4.out; have := HJ12.out; have := HK3.out; have := HK4.out; omega⟩, ⟨by repeat (first | (with_reducible first | exact HB.out | apply lA | apply lN | apply lD) | exact HB.out)⟩⟩
        ·rw [if_neg c17] at H
         have c17b0 : decide (t203 ≤ x14_3) = false := decide_eq_false c17
         clear c17
         replace H := Option.bind_eq_some_iff.mp H
         obtain ⟨t206, A320, H⟩ := H
         replace H : (some (0, t206)) = some (r1, r2) := H
         have A32 := aM A320
         clear A320
         simp only [Option.some.injEq, Prod.mk.injEq] at H
         obtain ⟨rfl, rfl⟩ := H
         go_wp2_with (first | (go_at_call 36; (with_reducible refine (expand_Letter.calls k3 _ _ l0 t206 _ ?side1 ?side2 A32.out).mono ?_); (case side1 => repeat (first | exact (Kd.C_below HR0.out HB.out) | (with_reducible refine Kd.C_alloc ?_ _) | (with_reducible refine Kd.C_drewN ?_ _) | (with_reducible refine Kd.C_drew ?_))); (case side2 => exact HC0.out); rintro e w33 ⟨rfl, hb⟩; have n0_ := aM (below_step (by repeat (first | (with_reducible first | exact HB.out | apply lA | apply lN | apply lD) | exact HB.out)) hb); clear HB; have HB := n0_; clear n0_; (try clear hb); (try clear hb2); (try clear hk); (try clear hi)))
         repeat (go_quiet (first | (go_at_call 36; (with_reducible refine (expand_Letter.calls k3 _ _ l0 t206 _ ?side1 ?side2 A32.out).mono ?_); (case side1 => repeat (first | exact (Kd.C_below HR0.out HB.out) | (with_reducible refine Kd.C_alloc ?_ _) | (with_reducible refine Kd.C_drewN ?_ _) | (with_reducible refine Kd.C_drew ?_))); (case side2 => exact HC0.out); rintro e w33 ⟨rfl, hb⟩; have n0_ := aM (below_step (by repeat (first | (with_reducible first | exact HB.out | apply lA | apply lN | apply lD) | exact HB.out)) hb); clear HB; have HB := n0_; clear n0_; (try clear hb); (try clear hb2); (try clear hk); (try clear hi))); try go_wp2_with (first | (go_at_call 36; (with_reducible refine (expand_Letter.calls k3 _ _ l0 t206 _ ?side1 ?side2 A32.out).mono ?_); (case side1 => repeat (first | exact (Kd.C_below HR0.out HB.out) | (with_reducible refine Kd.C_alloc ?_ _) | (with_reducible refine Kd.C_drewN ?_ _) | (with_reducible refine Kd.C_drew ?_))); (case side2 => exact HC0.out); rintro e w33 ⟨rfl, hb⟩; have n0_ := aM (below_step (by repeat (first | (with_reducible first | exact HB.out | apply lA | apply lN | apply lD) | exact HB.out)) hb); clear HB; have HB := n0_; clear n0_; (try clear hb); (try clear hb2); (try clear hk); (try clear hi))))
         go_ret2
         exact ⟨by first | rfl | (simp [errW_none, errW_some] <;> rfl) | (simp only [← hji12]; first | rfl | (simp [errW_none, errW_some] <;> rfl)) | (simp [*, errW_none, errW_some] <;> rfl), by repeat (first | (with_reducible first | exact HB.out | apply lA | apply lN | apply lD) | exact HB.out)⟩
end Go.Proofs.Ytadamegddcadcaa.PDen
