import Derived.Test.YtadamegddcadcaaPDenx0
namespace Go.Proofs.Ytadamegddcadcaa.PDen
open Go.Proofs.YtadamegddcadcaaV Go.RowKit Go.Proofs.YtadamegddcadcaaW.PrintWords Go.Proofs.YtadamegddcadcaaW.PrintLast Go.Proofs.YtadamegddcadcaaW.PrintMore
attribute [local go_sem] max2_int min2_int max_two min_two max_three min_three max_four min_four
set_option linter.unusedVariables false
set_option linter.unusedSimpArgs false
def civil_Clock.f (a0 : Int) : Option (Int × Int) := if (Int.tmod a0 86400) < 0 then (some (wrap64 ((wrap64 (Int.tdiv a0 86400)) - 1), wrap64 (a0 - (wrap64 ((wrap64 ((wrap64 (Int.tdiv a0 86400)) - 1)) * 86400))))) else (some (wrap64 (Int.tdiv a0 86400), wrap64 (a0 - (wrap64 ((wrap64 (Int.tdiv a0 86400)) * 86400)))))
set_option maxHeartbeats 8000000 in
set_option maxRecDepth 100000 in
theorem civil_Clock.calls (a0 : Int) (r1 : Int) (r2 : Int) (w : World) (h : civil_Clock.f a0 = some (r1, r2)) :
  Calls Try.prog 22 #[.int .i64 a0] w fun e w' => e = .returned (.tuple #[.int .i64 r1, .int .i64 r2]) ∧ Drawn0 w w' := by
 have H : (if (Int.tmod a0 86400) < 0 then (some (wrap64 ((wrap64 (Int.tdiv a0 86400)) - 1), wrap64 (a0 - (wrap64 ((wrap64 ((wrap64 (Int.tdiv a0 86400)) - 1)) * 86400))))) else (some (wrap64 (Int.tdiv a0 86400), wrap64 (a0 - (wrap64 ((wrap64 (Int.tdiv a0 86400)) * 86400)))))) = some (r1, r2) := h
 clear h
 by_cases c2 : (Int.tmod a0 86400) < 0
 ·rw [if_pos c2] at H
  have c2b0 : decide ((Int.tmod a0 86400) < 0) = true := decide_eq_true c2
  clear c2
  simp only [Option.some.injEq, Prod.mk.injEq] at H
  obtain ⟨rfl, rfl⟩ := H
  go_enter Try.func22, Try.ntmps22
  go_wp2
  go_ret2
  exact ⟨by first | rfl | (simp; done) | (simp [*]; done), by repeat (first | exact Drawn0.refl _ | apply Drawn0.step)⟩
 ·rw [if_neg c2] at H
  have c2b0 : decide ((Int.tmod a0 86400) < 0) = false := decide_eq_false c2
  clear c2
  simp only [Option.some.injEq, Prod.mk.injEq] at H
  obtain ⟨rfl, rfl⟩ := H
  go_enter Try.func22, Try.ntmps22
  go_wp2
  go_ret2
  exact ⟨by first | rfl | (simp; done) | (simp [*]; done), by repeat (first | exact Drawn0.refl _ | apply Drawn0.step)⟩
def civil_number.f (a0 : Int) (a1 : Int) (a2 : Int) : Option (Int) := if a1 ≤ 2 then (some (wrap64 ((wrap64 ((wrap64 ((wrap64 ((wrap64 ((wrap64 ((wrap64 (Int.tdiv (wrap64 ((wrap64 (a0 - 1)) + 12000)) 400)) * 146097)) + (wrap64 ((wrap64 ((wrap64 ((wrap64 (a0 - 1)) + 12000)) - (wrap64 ((wrap64 (Int.tdiv (wrap64 ((wrap64 (a0 - 1)) + 12000)) 400)) * 400)))) * 365)))) + (wrap64 (Int.tdiv (wrap64 ((wrap64 ((wrap64 (a0 - 1)) + 12000)) - (wrap64 ((wrap64 (Int.tdiv (wrap64 ((wrap64 (a0 - 1)) + 12000)) 400)) * 400)))) 4)))) - (wrap64 (Int.tdiv (wrap64 ((wrap64 ((wrap64 (a0 - 1)) + 12000)) - (wrap64 ((wrap64 (Int.tdiv (wrap64 ((wrap64 (a0 - 1)) + 12000)) 400)) * 400)))) 100)))) + (wrap64 ((wrap64 ((wrap64 (Int.tdiv (wrap64 ((wrap64 (153 * (wrap64 ((wrap64 (a1 + 12)) - 3)))) + 2)) 5)) + a2)) - 1)))) - 5102378))) else (some (wrap64 ((wrap64 ((wrap64 ((wrap64 ((wrap64 ((wrap64 ((wrap64 (Int.tdiv (wrap64 (a0 + 12000)) 400)) * 146097)) + (wrap64 ((wrap64 ((wrap64 (a0 + 12000)) - (wrap64 ((wrap64 (Int.tdiv (wrap64 (a0 + 12000)) 400)) * 400)))) * 365)))) + (wrap64 (Int.tdiv (wrap64 ((wrap64 (a0 + 12000)) - (wrap64 ((wrap64 (Int.tdiv (wrap64 (a0 + 12000)) 400)) * 400)))) 4)))) - (wrap64 (Int.tdiv (wrap64 ((wrap64 (a0 + 12000)) - (wrap64 ((wrap64 (Int.tdiv (wrap64 (a0 + 12000)) 400)) * 400)))) 100)))) + (wrap64 ((wrap64 ((wrap64 (Int.tdiv (wrap64 ((wrap64 (153 * (wrap64 (a1 - 3)))) + 2)) 5)) + a2)) - 1)))) - 5102378)))
set_option maxHeartbeats 8000000 in
set_option maxRecDepth 100000 in
theorem civil_number.calls (a0 : Int) (a1 : Int) (a2 : Int) (r : Int) (w : World) (h : civil_number.f a0 a1 a2 = some r) :
  Calls Try.prog 35 #[.int .i64 a0, .int .i64 a1, .int .i64 a2] w fun e w' => e = .returned (.int .i64 r) ∧ Drawn0 w w' := by
 have H : (if a1 ≤ 2 then (some (wrap64 ((wrap64 ((wrap64 ((wrap64 ((wrap64 ((wrap64 ((wrap64 (Int.tdiv (wrap64 ((wrap64 (a0 - 1)) + 12000)) 400)) * 146097)) + (wrap64 ((wrap64 ((wrap64 ((wrap64 (a0 - 1)) + 12000)) - (wrap64 ((wrap64 (Int.tdiv (wrap64 ((wrap64 (a0 - 1)) + 12000)) 400)) * 400)))) * 365)))) + (wrap64 (Int.tdiv (wrap64 ((wrap64 ((wrap64 (a0 - 1)) + 12000)) - (wrap64 ((wrap64 (Int.tdiv (wrap64 ((wrap64 (a0 - 1)) + 12000)) 400)) * 400)))) 4)))) - (wrap64 (Int.tdiv (wrap64 ((wrap64 ((wrap64 (a0 - 1)) + 12000)) - (wrap64 ((wrap64 (Int.tdiv (wrap64 ((wrap64 (a0 - 1)) + 12000)) 400)) * 400)))) 100)))) + (wrap64 ((wrap64 ((wrap64 (Int.tdiv (wrap64 ((wrap64 (153 * (wrap64 ((wrap64 (a1 + 12)) - 3)))) + 2)) 5)) + a2)) - 1)))) - 5102378))) else (some (wrap64 ((wrap64 ((wrap64 ((wrap64 ((wrap64 ((wrap64 ((wrap64 (Int.tdiv (wrap64 (a0 + 12000)) 400)) * 146097)) + (wrap64 ((wrap64 ((wrap64 (a0 + 12000)) - (wrap64 ((wrap64 (Int.tdiv (wrap64 (a0 + 12000)) 400)) * 400)))) * 365)))) + (wrap64 (Int.tdiv (wrap64 ((wrap64 (a0 + 12000)) - (wrap64 ((wrap64 (Int.tdiv (wrap64 (a0 + 12000)) 400)) * 400)))) 4)))) - (wrap64 (Int.tdiv (wrap64 ((wrap64 (a0 + 12000)) - (wrap64 ((wrap64 (Int.tdiv (wrap64 (a0 + 12000)) 400)) * 400)))) 100)))) + (wrap64 ((wrap64 ((wrap64 (Int.tdiv (wrap64 ((wrap64 (153 * (wrap64 (a1 - 3)))) + 2)) 5)) + a2)) - 1)))) - 5102378)))) = some r := h
 clear h
 by_cases c4 : a1 ≤ 2
 ·rw [if_pos c4] at H
  have c4b0 : decide (a1 ≤ 2) = true := decide_eq_true c4
  clear c4
  obtain rfl := Option.some.inj H
  go_enter Try.func35, Try.ntmps35
  go_wp2
  go_ret
  exact ⟨by first | rfl | (simp; done) | (simp [*]; done), by repeat (first | exact Drawn0.refl _ | apply Drawn0.step)⟩
 ·rw [if_neg c4] at H
  have c4b0 : decide (a1 ≤ 2) = false := decide_eq_false c4
  clear c4
  obtain rfl := Option.some.inj H
  go_enter Try.func35, Try.ntmps35
  go_wp2
  go_ret
  exact ⟨by first | rfl | (simp; done) | (simp [*]; done), by repeat (first | exact Drawn0.refl _ | apply Drawn0.step)⟩
def civil_Date.j0 : Nat → Int → Bool → Option (Int × Int × Int × Int)
 | 0, _, _ => none
 | k + 1, x0, x19 => if x19 = true then (some (0, 0, 0, 2)) else (if (wrap64 ((wrap64 (Int.tdiv (wrap64 ((wrap64 (5 * (wrap64 ((wrap64 ((wrap64 (x0 + 5102378)) - (wrap64 ((wrap64 (Int.tdiv (wrap64 (x0 + 5102378)) 146097)) * 146097)))) - (wrap64 ((wrap64 ((wrap64 (365 * (wrap64 (Int.tdiv (wrap64 ((wrap64 ((wrap64 ((wrap64 ((wrap64 (x0 + 5102378)) - (wrap64 ((wrap64 (Int.tdiv (wrap64 (x0 + 5102378)) 146097)) * 146097)))) - (wrap64 (Int.tdiv (wrap64 ((wrap64 (x0 + 5102378)) - (wrap64 ((wrap64 (Int.tdiv (wrap64 (x0 + 5102378)) 146097)) * 146097)))) 1460)))) + (wrap64 (Int.tdiv (wrap64 ((wrap64 (x0 + 5102378)) - (wrap64 ((wrap64 (Int.tdiv (wrap64 (x0 + 5102378)) 146097)) * 146097)))) 36524)))) - (wrap64 (Int.tdiv (wrap64 ((wrap64 (x0 + 5102378)) - (wrap64 ((wrap64 (Int.tdiv (wrap64 (x0 + 5102378)) 146097)) * 146097)))) 146096)))) 365)))) + (wrap64 (Int.tdiv (wrap64 (Int.tdiv (wrap64 ((wrap64 ((wrap64 ((wrap64 ((wrap64 (x0 + 5102378)) - (wrap64 ((wrap64 (Int.tdiv (wrap64 (x0 + 5102378)) 146097)) * 146097)))) - (wrap64 (Int.tdiv (wrap64 ((wrap64 (x0 + 5102378)) - (wrap64 ((wrap64 (Int.tdiv (wrap64 (x0 + 5102378)) 146097)) * 146097)))) 1460)))) + (wrap64 (Int.tdiv (wrap64 ((wrap64 (x0 + 5102378)) - (wrap64 ((wrap64 (Int.tdiv (wrap64 (x0 + 5102378)) 146097)) * 146097)))) 36524)))) - (wrap64 (Int.tdiv (wrap64 ((wrap64 (x0 + 5102378)) - (wrap64 ((wrap64 (Int.tdiv (wrap64 (x0 + 5102378)) 146097)) * 146097)))) 146096)))) 365)) 4)))) - (wrap64 (Int.tdiv (wrap64 (Int.tdiv (wrap64 ((wrap64 ((wrap64 ((wrap64 ((wrap64 (x0 + 5102378)) - (wrap64 ((wrap64 (Int.tdiv (wrap64 (x0 + 5102378)) 146097)) * 146097)))) - (wrap64 (Int.tdiv (wrap64 ((wrap64 (x0 + 5102378)) - (wrap64 ((wrap64 (Int.tdiv (wrap64 (x0 + 5102378)) 146097)) * 146097)))) 1460)))) + (wrap64 (Int.tdiv (wrap64 ((wrap64 (x0 + 5102378)) - (wrap64 ((wrap64 (Int.tdiv (wrap64 (x0 + 5102378)) 146097)) * 146097)))) 36524)))) - (wrap64 (Int.tdiv (wrap64 ((wrap64 (x0 + 5102378)) - (wrap64 ((wrap64 (Int.tdiv (wrap64 (x0 + 5102378)) 146097)) * 146097)))) 146096)))) 365)) 100)))))))) + 2)) 153)) + 3)) > 12 then (some (wrap64 ((wrap64 ((wrap64 ((wrap64 (Int.tdiv (wrap64 ((wrap64 ((wrap64 ((wrap64 ((wrap64 (x0 + 5102378)) - (wrap64 ((wrap64 (Int.tdiv (wrap64 (x0 + 5102378)) 146097)) * 146097)))) - (wrap64 (Int.tdiv (wrap64 ((wrap64 (x0 + 5102378)) - (wrap64 ((wrap64 (Int.tdiv (wrap64 (x0 + 5102378)) 146097)) * 146097)))) 1460)))) + (wrap64 (Int.tdiv (wrap64 ((wrap64 (x0 + 5102378)) - (wrap64 ((wrap64 (Int.tdiv (wrap64 (x0 + 5102378)) 146097)) * 146097)))) 36524)))) - (wrap64 (Int.tdiv (wrap64 ((wrap64 (x0 + 5102378)) - (wrap64 ((wrap64 (Int.tdiv (wrap64 (x0 + 5102378)) 146097)) * 146097)))) 146096)))) 365)) + (wrap64 ((wrap64 (Int.tdiv (wrap64 (x0 + 5102378)) 146097)) * 400)))) - 12000)) + 1), wrap64 ((wrap64 ((wrap64 (Int.tdiv (wrap64 ((wrap64 (5 * (wrap64 ((wrap64 ((wrap64 (x0 + 5102378)) - (wrap64 ((wrap64 (Int.tdiv (wrap64 (x0 + 5102378)) 146097)) * 146097)))) - (wrap64 ((wrap64 ((wrap64 (365 * (wrap64 (Int.tdiv (wrap64 ((wrap64 ((wrap64 ((wrap64 ((wrap64 (x0 + 5102378)) - (wrap64 ((wrap64 (Int.tdiv (wrap64 (x0 + 5102378)) 146097)) * 146097)))) - (wrap64 (Int.tdiv (wrap64 ((wrap64 (x0 + 5102378)) - (wrap64 ((wrap64 (Int.tdiv (wrap64 (x0 + 5102378)) 146097)) * 146097)))) 1460)))) + (wrap64 (Int.tdiv (wrap64 ((wrap64 (x0 + 5102378)) - (wrap64 ((wrap64 (Int.tdiv (wrap64 (x0 + 5102378)) 146097)) * 146097)))) 36524)))) - (wrap64 (Int.tdiv (wrap64 ((wrap64 (x0 + 5102378)) - (wrap64 ((wrap64 (Int.tdiv (wrap64 (x0 + 5102378)) 146097)) * 146097)))) 146096)))) 365)))) + (wrap64 (Int.tdiv (wrap64 (Int.tdiv (wrap64 ((wrap64 ((wrap64 ((wrap64 ((wrap64 (x0 + 5102378)) - (wrap64 ((wrap64 (Int.tdiv (wrap64 (x0 + 5102378)) 146097)) * 146097)))) - (wrap64 (Int.tdiv (wrap64 ((wrap64 (x0 + 5102378)) - (wrap64 ((wrap64 (Int.tdiv (wrap64 (x0 + 5102378)) 146097)) * 146097)))) 1460)))) + (wrap64 (Int.tdiv (wrap64 ((wrap64 (x0 + 5102378)) - (wrap64 ((wrap64 (Int.tdiv (wrap64 (x0 + 5102378)) 146097)) * 146097)))) 36524)))) - (wrap64 (Int.tdiv (wrap64 ((wrap64 (x0 + 5102378)) - (wrap64 ((wrap64 (Int.tdiv (wrap64 (x0 + 5102378)) 146097)) * 146097)))) 146096)))) 365)) 4)))) - (wrap64 (Int.tdiv (wrap64 (Int.tdiv (wrap64 ((wrap64 ((wrap64 ((wrap64 ((wrap64 (x0 + 5102378)) - (wrap64 ((wrap64 (Int.tdiv (wrap64 (x0 + 5102378)) 146097)) * 146097)))) - (wrap64 (Int.tdiv (wrap64 ((wrap64 (x0 + 5102378)) - (wrap64 ((wrap64 (Int.tdiv (wrap64 (x0 + 5102378)) 146097)) * 146097)))) 1460)))) + (wrap64 (Int.tdiv (wrap64 ((wrap64 (x0 + 5102378)) - (wrap64 ((wrap64 (Int.tdiv (wrap64 (x0 + 5102378)) 146097)) * 146097)))) 36524)))) - (wrap64 (Int.tdiv (wrap64 ((wrap64 (x0 + 5102378)) - (wrap64 ((wrap64 (Int.tdiv (wrap64 (x0 + 5102378)) 146097)) * 146097)))) 146096)))) 365)) 100)))))))) + 2)) 153)) + 3)) - 12), wrap64 ((wrap64 ((wrap64 ((wrap64 ((wrap64 (x0 + 5102378)) - (wrap64 ((wrap64 (Int.tdiv (wrap64 (x0 + 5102378)) 146097)) * 146097)))) - (wrap64 ((wrap64 ((wrap64 (365 * (wrap64 (Int.tdiv (wrap64 ((wrap64 ((wrap64 ((wrap64 ((wrap64 (x0 + 5102378)) - (wrap64 ((wrap64 (Int.tdiv (wrap64 (x0 + 5102378)) 146097)) * 146097)))) - (wrap64 (Int.tdiv (wrap64 ((wrap64 (x0 + 5102378)) - (wrap64 ((wrap64 (Int.tdiv (wrap64 (x0 + 5102378)) 146097)) * 146097)))) 1460)))) + (wrap64 (Int.tdiv (wrap64 ((wrap64 (x0 + 5102378)) - (wrap64 ((wrap64 (Int.tdiv (wrap64 (x0 + 5102378)) 146097)) * 146097)))) 36524)))) - (wrap64 (Int.tdiv (wrap64 ((wrap64 (x0 + 5102378)) - (wrap64 ((wrap64 (Int.tdiv (wrap64 (x0 + 5102378)) 146097)) * 146097)))) 146096)))) 365)))) + (wrap64 (Int.tdiv (wrap64 (Int.tdiv (wrap64 ((wrap64 ((wrap64 ((wrap64 ((wrap64 (x0 + 5102378)) - (wrap64 ((wrap64 (Int.tdiv (wrap64 (x0 + 5102378)) 146097)) * 146097)))) - (wrap64 (Int.tdiv (wrap64 ((wrap64 (x0 + 5102378)) - (wrap64 ((wrap64 (Int.tdiv (wrap64 (x0 + 5102378)) 146097)) * 146097)))) 1460)))) + (wrap64 (Int.tdiv (wrap64 ((wrap64 (x0 + 5102378)) - (wrap64 ((wrap64 (Int.tdiv (wrap64 (x0 + 5102378)) 146097)) * 146097)))) 36524)))) - (wrap64 (Int.tdiv (wrap64 ((wrap64 (x0 + 5102378)) - (wrap64 ((wrap64 (Int.tdiv (wrap64 (x0 + 5102378)) 146097)) * 146097)))) 146096)))) 365)) 4)))) - (wrap64 (Int.tdiv (wrap64 (Int.tdiv (wrap64 ((wrap64 ((wrap64 ((wrap64 ((wrap64 (x0 + 5102378)) - (wrap64 ((wrap64 (Int.tdiv (wrap64 (x0 + 5102378)) 146097)) * 146097)))) - (wrap64 (Int.tdiv (wrap64 ((wrap64 (x0 + 5102378)) - (wrap64 ((wrap64 (Int.tdiv (wrap64 (x0 + 5102378)) 146097)) * 146097)))) 1460)))) + (wrap64 (Int.tdiv (wrap64 ((wrap64 (x0 + 5102378)) - (wrap64 ((wrap64 (Int.tdiv (wrap64 (x0 + 5102378)) 146097)) * 146097)))) 36524)))) - (wrap64 (Int.tdiv (wrap64 ((wrap64 (x0 + 5102378)) - (wrap64 ((wrap64 (Int.tdiv (wrap64 (x0 + 5102378)) 146097)) * 146097)))) 146096)))) 365)) 100)))))) - (wrap64 (Int.tdiv (wrap64 ((wrap64 (153 * (wrap64 (Int.tdiv (wrap64 ((wrap64 (5 * (wrap64 ((wrap64 ((wrap64 (x0 + 5102378)) - (wrap64 ((wrap64 (Int.tdiv (wrap64 (x0 + 5102378)) 146097)) * 146097)))) - (wrap64 ((wrap64 ((wrap64 (365 * (wrap64 (Int.tdiv (wrap64 ((wrap64 ((wrap64 ((wrap64 ((wrap64 (x0 + 5102378)) - (wrap64 ((wrap64 (Int.tdiv (wrap64 (x0 + 5102378)) 146097)) * 146097)))) - (wrap64 (Int.tdiv (wrap64 ((wrap64 (x0 + 5102378)) - (wrap64 ((wrap64 (Int.tdiv (wrap64 (x0 + 5102378)) 146097)) * 146097)))) 1460)))) + (wrap64 (Int.tdiv (wrap64 ((wrap64 (x0 + 5102378)) - (wrap64 ((wrap64 (Int.tdiv (wrap64 (x0 + 5102378)) 146097)) * 146097)))) 36524)))) - (wrap64 (Int.tdiv (wrap64 ((wrap64 (x0 + 5102378)) - (wrap64 ((wrap64 (Int.tdiv (wrap64 (x0 + 5102378)) 146097)) * 146097)))) 146096)))) 365)))) + (wrap64 (Int.tdiv (wrap64 (Int.tdiv (wrap64 ((wrap64 ((wrap64 ((wrap64 ((wrap64 (x0 + 5102378)) - (wrap64 ((wrap64 (Int.tdiv (wrap64 (x0 + 5102378)) 146097)) * 146097)))) - (wrap64 (Int.tdiv (wrap64 ((wrap64 (x0 + 5102378)) - (wrap64 ((wrap64 (Int.tdiv (wrap64 (x0 + 5102378)) 146097)) * 146097)))) 1460)))) + (wrap64 (Int.tdiv (wrap64 ((wrap64 (x0 + 5102378)) - (wrap64 ((wrap64 (Int.tdiv (wrap64 (x0 + 5102378)) 146097)) * 146097)))) 36524)))) - (wrap64 (Int.tdiv (wrap64 ((wrap64 (x0 + 5102378)) - (wrap64 ((wrap64 (Int.tdiv (wrap64 (x0 + 5102378)) 146097)) * 146097)))) 146096)))) 365)) 4)))) - (wrap64 (Int.tdiv (wrap64 (Int.tdiv (wrap64 ((wrap64 ((wrap64 ((wrap64 ((wrap64 (x0 + 5102378)) - (wrap64 ((wrap64 (Int.tdiv (wrap64 (x0 + 5102378)) 146097)) * 146097)))) - (wrap64 (Int.tdiv (wrap64 ((wrap64 (x0 + 5102378)) - (wrap64 ((wrap64 (Int.tdiv (wrap64 (x0 + 5102378)) 146097)) * 146097)))) 1460)))) + (wrap64 (Int.tdiv (wrap64 ((wrap64 (x0 + 5102378)) - (wrap64 ((wrap64 (Int.tdiv (wrap64 (x0 + 5102378)) 146097)) * 146097)))) 36524)))) - (wrap64 (Int.tdiv (wrap64 ((wrap64 (x0 + 5102378)) - (wrap64 ((wrap64 (Int.tdiv (wrap64 (x0 + 5102378)) 146097)) * 146097)))) 146096)))) 365)) 100)))))))) + 2)) 153)))) + 2)) 5)))) + 1), 0)) else (some (wrap64 ((wrap64 ((wrap64 (Int.tdiv (wrap64 ((wrap64 ((wrap64 ((wrap64 ((wrap64 (x0 + 5102378)) - (wrap64 ((wrap64 (Int.tdiv (wrap64 (x0 + 5102378)) 146097)) * 146097)))) - (wrap64 (Int.tdiv (wrap64 ((wrap64 (x0 + 5102378)) - (wrap64 ((wrap64 (Int.tdiv (wrap64 (x0 + 5102378)) 146097)) * 146097)))) 1460)))) + (wrap64 (Int.tdiv (wrap64 ((wrap64 (x0 + 5102378)) - (wrap64 ((wrap64 (Int.tdiv (wrap64 (x0 + 5102378)) 146097)) * 146097)))) 36524)))) - (wrap64 (Int.tdiv (wrap64 ((wrap64 (x0 + 5102378)) - (wrap64 ((wrap64 (Int.tdiv (wrap64 (x0 + 5102378)) 146097)) * 146097)))) 146096)))) 365)) + (wrap64 ((wrap64 (Int.tdiv (wrap64 (x0 + 5102378)) 146097)) * 400)))) - 12000), wrap64 ((wrap64 (Int.tdiv (wrap64 ((wrap64 (5 * (wrap64 ((wrap64 ((wrap64 (x0 + 5102378)) - (wrap64 ((wrap64 (Int.tdiv (wrap64 (x0 + 5102378)) 146097)) * 146097)))) - (wrap64 ((wrap64 ((wrap64 (365 * (wrap64 (Int.tdiv (wrap64 ((wrap64 ((wrap64 ((wrap64 ((wrap64 (x0 + 5102378)) - (wrap64 ((wrap64 (Int.tdiv (wrap64 (x0 + 5102378)) 146097)) * 146097)))) - (wrap64 (Int.tdiv (wrap64 ((wrap64 (x0 + 5102378)) - (wrap64 ((wrap64 (Int.tdiv (wrap64 (x0 + 5102378)) 146097)) * 146097)))) 1460)))) + (wrap64 (Int.tdiv (wrap64 ((wrap64 (x0 + 5102378)) - (wrap64 ((wrap64 (Int.tdiv (wrap64 (x0 + 5102378)) 146097)) * 146097)))) 36524)))) - (wrap64 (Int.tdiv (wrap64 ((wrap64 (x0 + 5102378)) - (wrap64 ((wrap64 (Int.tdiv (wrap64 (x0 + 5102378)) 146097)) * 146097)))) 146096)))) 365)))) + (wrap64 (Int.tdiv (wrap64 (Int.tdiv (wrap64 ((wrap64 ((wrap64 ((wrap64 ((wrap64 (x0 + 5102378)) - (wrap64 ((wrap64 (Int.tdiv (wrap64 (x0 + 5102378)) 146097)) * 146097)))) - (wrap64 (Int.tdiv (wrap64 ((wrap64 (x0 + 5102378)) - (wrap64 ((wrap64 (Int.tdiv (wrap64 (x0 + 5102378)) 146097)) * 146097)))) 1460)))) + (wrap64 (Int.tdiv (wrap64 ((wrap64 (x0 + 5102378)) - (wrap64 ((wrap64 (Int.tdiv (wrap64 (x0 + 5102378)) 146097)) * 146097)))) 36524)))) - (wrap64 (Int.tdiv (wrap64 ((wrap64 (x0 + 5102378)) - (wrap64 ((wrap64 (Int.tdiv (wrap64 (x0 + 5102378)) 146097)) * 146097)))) 146096)))) 365)) 4)))) - (wrap64 (Int.tdiv (wrap64 (Int.tdiv (wrap64 ((wrap64 ((wrap64 ((wrap64 ((wrap64 (x0 + 5102378)) - (wrap64 ((wrap64 (Int.tdiv (wrap64 (x0 + 5102378)) 146097)) * 146097)))) - (wrap64 (Int.tdiv (wrap64 ((wrap64 (x0 + 5102378)) - (wrap64 ((wrap64 (Int.tdiv (wrap64 (x0 + 5102378)) 146097)) * 146097)))) 1460)))) + (wrap64 (Int.tdiv (wrap64 ((wrap64 (x0 + 5102378)) - (wrap64 ((wrap64 (Int.tdiv (wrap64 (x0 + 5102378)) 146097)) * 146097)))) 36524)))) - (wrap64 (Int.tdiv (wrap64 ((wrap64 (x0 + 5102378)) - (wrap64 ((wrap64 (Int.tdiv (wrap64 (x0 + 5102378)) 146097)) * 146097)))) 146096)))) 365)) 100)))))))) + 2)) 153)) + 3), wrap64 ((wrap64 ((wrap64 ((wrap64 ((wrap64 (x0 + 5102378)) - (wrap64 ((wrap64 (Int.tdiv (wrap64 (x0 + 5102378)) 146097)) * 146097)))) - (wrap64 ((wrap64 ((wrap64 (365 * (wrap64 (Int.tdiv (wrap64 ((wrap64 ((wrap64 ((wrap64 ((wrap64 (x0 + 5102378)) - (wrap64 ((wrap64 (Int.tdiv (wrap64 (x0 + 5102378)) 146097)) * 146097)))) - (wrap64 (Int.tdiv (wrap64 ((wrap64 (x0 + 5102378)) - (wrap64 ((wrap64 (Int.tdiv (wrap64 (x0 + 5102378)) 146097)) * 146097)))) 1460)))) + (wrap64 (Int.tdiv (wrap64 ((wrap64 (x0 + 5102378)) - (wrap64 ((wrap64 (Int.tdiv (wrap64 (x0 + 5102378)) 146097)) * 146097)))) 36524)))) - (wrap64 (Int.tdiv (wrap64 ((wrap64 (x0 + 5102378)) - (wrap64 ((wrap64 (Int.tdiv (wrap64 (x0 + 5102378)) 146097)) * 146097)))) 146096)))) 365)))) + (wrap64 (Int.tdiv (wrap64 (Int.tdiv (wrap64 ((wrap64 ((wrap64 ((wrap64 ((wrap64 (x0 + 5102378)) - (wrap64 ((wrap64 (Int.tdiv (wrap64 (x0 + 5102378)) 146097)) * 146097)))) - (wrap64 (Int.tdiv (wrap64 ((wrap64 (x0 + 5102378)) - (wrap64 ((wrap64 (Int.tdiv (wrap64 (x0 + 5102378)) 146097)) * 146097)))) 1460)))) + (wrap64 (Int.tdiv (wrap64 ((wrap64 (x0 + 5102378)) - (wrap64 ((wrap64 (Int.tdiv (wrap64 (x0 + 5102378)) 146097)) * 146097)))) 36524)))) - (wrap64 (Int.tdiv (wrap64 ((wrap64 (x0 + 5102378)) - (wrap64 ((wrap64 (Int.tdiv (wrap64 (x0 + 5102378)) 146097)) * 146097)))) 146096)))) 365)) 4)))) - (wrap64 (Int.tdiv (wrap64 (Int.tdiv (wrap64 ((wrap64 ((wrap64 ((wrap64 ((wrap64 (x0 + 5102378)) - (wrap64 ((wrap64 (Int.tdiv (wrap64 (x0 + 5102378)) 146097)) * 146097)))) - (wrap64 (Int.tdiv (wrap64 ((wrap64 (x0 + 5102378)) - (wrap64 ((wrap64 (Int.tdiv (wrap64 (x0 + 5102378)) 146097)) * 146097)))) 1460)))) + (wrap64 (Int.tdiv (wrap64 ((wrap64 (x0 + 5102378)) - (wrap64 ((wrap64 (Int.tdiv (wrap64 (x0 + 5102378)) 146097)) * 146097)))) 36524)))) - (wrap64 (Int.tdiv (wrap64 ((wrap64 (x0 + 5102378)) - (wrap64 ((wrap64 (Int.tdiv (wrap64 (x0 + 5102378)) 146097)) * 146097)))) 146096)))) 365)) 100)))))) - (wrap64 (Int.tdiv (wrap64 ((wrap64 (153 * (wrap64 (Int.tdiv (wrap64 ((wrap64 (5 * (wrap64 ((wrap64 ((wrap64 (x0 + 5102378)) - (wrap64 ((wrap64 (Int.tdiv (wrap64 (x0 + 5102378)) 146097)) * 146097)))) - (wrap64 ((wrap64 ((wrap64 (365 * (wrap64 (Int.tdiv (wrap64 ((wrap64 ((wrap64 ((wrap64 ((wrap64 (x0 + 5102378)) - (wrap64 ((wrap64 (Int.tdiv (wrap64 (x0 + 5102378)) 146097)) * 146097)))) - (wrap64 (Int.tdiv (wrap64 ((wrap64 (x0 + 5102378)) - (wrap64 ((wrap64 (Int.tdiv (wrap64 (x0 + 5102378)) 146097)) * 146097)))) 1460)))) + (wrap64 (Int.tdiv (wrap64 ((wrap64 (x0 + 5102378)) - (wrap64 ((wrap64 (Int.tdiv (wrap64 (x0 + 5102378)) 146097)) * 146097)))) 36524)))) - (wrap64 (Int.tdiv (wrap64 ((wrap64 (x0 + 5102378)) - (wrap64 ((wrap64 (Int.tdiv (wrap64 (x0 + 5102378)) 146097)) * 146097)))) 146096)))) 365)))) + (wrap64 (Int.tdiv (wrap64 (Int.tdiv (wrap64 ((wrap64 ((wrap64 ((wrap64 ((wrap64 (x0 + 5102378)) - (wrap64 ((wrap64 (Int.tdiv (wrap64 (x0 + 5102378)) 146097)) * 146097)))) - (wrap64 (Int.tdiv (wrap64 ((wrap64 (x0 + 5102378)) - (wrap64 ((wrap64 (Int.tdiv (wrap64 (x0 + 5102378)) 146097)) * 146097)))) 1460)))) + (wrap64 (Int.tdiv (wrap64 ((wrap64 (x0 + 5102378)) - (wrap64 ((wrap64 (Int.tdiv (wrap64 (x0 + 5102378)) 146097)) * 146097)))) 36524)))) - (wrap64 (Int.tdiv (wrap64 ((wrap64 (x0 + 5102378)) - (wrap64 ((wrap64 (Int.tdiv (wrap64 (x0 + 5102378)) 146097)) * 146097)))) 146096)))) 365)) 4)))) - (wrap64 (Int.tdiv (wrap64 (Int.tdiv (wrap64 ((wrap64 ((wrap64 ((wrap64 ((wrap64 (x0 + 5102378)) - (wrap64 ((wrap64 (Int.tdiv (wrap64 (x0 + 5102378)) 146097)) * 146097)))) - (wrap64 (Int.tdiv (wrap64 ((wrap64 (x0 + 5102378)) - (wrap64 ((wrap64 (Int.tdiv (wrap64 (x0 + 5102378)) 146097)) * 146097)))) 1460)))) + (wrap64 (Int.tdiv (wrap64 ((wrap64 (x0 + 5102378)) - (wrap64 ((wrap64 (Int.tdiv (wrap64 (x0 + 5102378)) 146097)) * 146097)))) 36524)))) - (wrap64 (Int.tdiv (wrap64 ((wrap64 (x0 + 5102378)) - (wrap64 ((wrap64 (Int.tdiv (wrap64 (x0 + 5102378)) 146097)) * 146097)))) 146096)))) 365)) 100)))))))) + 2)) 153)))) + 2)) 5)))) + 1), 0)))
def civil_Date.f (k : Nat) (a0 : Int) : Option (Int × Int × Int × Int) := (civil_number.f (-9999) 1 1).bind fun t101 => (if a0 < t101 then (civil_Date.j0 k a0 true) else ((civil_number.f 9999 12 31).bind fun t102 => (civil_Date.j0 k a0 (decide (a0 > t102)))))
theorem civil_Date.mono_l : ∀ k, (∀ y0 y1, LeO (civil_Date.j0 k y0 y1) (civil_Date.j0 (k + 1) y0 y1))
 | 0 => fun _ _ r h => by simp [civil_Date.j0] at h
 | k + 1 => by
  have ih0 := civil_Date.mono_l k
  ·intro y0 y1
   unfold civil_Date.j0
   repeat' first
   | (with_reducible exact ih0 _ _)
   | (with_reducible exact LeO.refl _)
   | (with_reducible exact LeO.none _)
   | (with_reducible refine LeO.ite ?_ ?_)
   | (with_reducible refine LeO.bind ?_ (fun _ => ?_))
   | exact ih0 _ _
   | exact LeO.none _
   | refine LeO.ite ?_ ?_
   | refine LeO.bind ?_ (fun _ => ?_)
theorem civil_Date.mono : ∀ a0 k, LeO (civil_Date.f k a0) (civil_Date.f (k + 1) a0) := by
 intro a0 k
 have ih0 := civil_Date.mono_l k
 unfold civil_Date.f
 repeat' first
   | (with_reducible exact ih0 _ _)
   | (with_reducible exact LeO.refl _)
   | (with_reducible exact LeO.none _)
   | (with_reducible refine LeO.ite ?_ ?_)
   | (with_reducible refine LeO.bind ?_ (fun _ => ?_))
   | exact ih0 _ _
   | exact LeO.none _
   | refine LeO.ite ?_ ?_
   | refine LeO.bind ?_ (fun _ => ?_)
set_option maxHeartbeats 8000000 in
set_option maxRecDepth 100000 in
theorem civil_Date.calls (k : Nat) (a0 : Int) (r1 : Int) (r2 : Int) (r3 : Int) (r4 : Int) (w : World) (h : civil_Date.f k a0 = some (r1, r2, r3, r4)) :
  Calls Try.prog 23 #[.int .i64 a0] w fun e w' => e = .returned (.tuple #[.int .i64 r1, .int .i64 r2, .int .i64 r3, .int .i64 r4]) ∧ Drawn0 w w' := by
 have H : ((civil_number.f (-9999) 1 1).bind fun t101 => (if a0 < t101 then (civil_Date.j0 k a0 true) else ((civil_number.f 9999 12 31).bind fun t102 => (civil_Date.j0 k a0 (decide (a0 > t102)))))) = some (r1, r2, r3, r4) := h
 clear h
 have HC2 := aM H
 clear H
 go_enter Try.func23, Try.ntmps23
 go_upto_region 1 with (fail)
 go_cut [19] (fun v19 wc => ∃ (kq : Nat) (x19_1 : Bool), v19 = .bool x19_1 ∧ Aside0 (civil_Date.j0 kq a0 x19_1 = some (r1, r2, r3, r4)) ∧ Aside0 (kq ≤ k) ∧ Drawn0 w wc)
 case first =>
  have H := HC2.out
  clear HC2
  replace H := Option.bind_eq_some_iff.mp H
  obtain ⟨t101, A30, H⟩ := H
  replace H : (if a0 < t101 then (civil_Date.j0 k a0 true) else ((civil_number.f 9999 12 31).bind fun t102 => (civil_Date.j0 k a0 (decide (a0 > t102))))) = some (r1, r2, r3, r4) := H
  have A3 := aM A30
  clear A30
  by_cases c4 : a0 < t101
  ·rw [if_pos c4] at H
   have c4b0 : decide (a0 < t101) = true := decide_eq_true c4
   clear c4
   (first | rw [c4b0] | (simp only [i64_w, i32_w]; rw [c4b0]) | skip)
   have H' := aM H
   clear H
   go_wp2_with (first | ((with_reducible refine gate_callee (f := 35) rfl ?_); refine goesL_ (some 13) rfl rfl Try.func35 (by kernel_rfl) rfl #[.int .i64 (-9999), .int .i64 1, .int .i64 1] rfl (by (try simp only [List.map_toArray, List.map_cons, List.map_nil]); first | done | rfl | (simp only [List.length_drop, List.length_take]; rfl)) ?_; (with_reducible refine (civil_number.calls (-9999) 1 1 t101 _ A3.out).mono ?_); rintro e w' ⟨rfl, ⟨nd, rfl⟩⟩; refine ⟨_, rfl, ?_⟩))
   go_meet
   case rel => exact ⟨_, (true), (by first | rfl | (simp; done) | (simp [*]; done)), H', ⟨by first | omega | exact Nat.le_refl _⟩, by repeat (first | exact Drawn0.refl _ | apply Drawn0.step)⟩
  ·rw [if_neg c4] at H
   have c4b0 : decide (a0 < t101) = false := decide_eq_false c4
   clear c4
   (first | rw [c4b0] | (simp only [i64_w, i32_w]; rw [c4b0]) | skip)
   replace H := Option.bind_eq_some_iff.mp H
   obtain ⟨t102, A50, H⟩ := H
   replace H : (civil_Date.j0 k a0 (decide (a0 > t102))) = some (r1, r2, r3, r4) := H
   have A5 := aM A50
   clear A50
   have H' := aM H
   clear H
   go_wp2_with (first | ((with_reducible refine gate_callee (f := 35) rfl ?_); refine goesL_ (some 13) rfl rfl Try.func35 (by kernel_rfl) rfl #[.int .i64 (-9999), .int .i64 1, .int .i64 1] rfl (by (try simp only [List.map_toArray, List.map_cons, List.map_nil]); first | done | rfl | (simp only [List.length_drop, List.length_take]; rfl)) ?_; (with_reducible refine (civil_number.calls (-9999) 1 1 t101 _ A3.out).mono ?_); rintro e w' ⟨rfl, ⟨nd, rfl⟩⟩; refine ⟨_, rfl, ?_⟩) | (go_at_call 35; (with_reducible refine (civil_number.calls 9999 12 31 t102 _ A5.out).mono ?_); rintro e w' ⟨rfl, ⟨nd, rfl⟩⟩))
   go_meet
   case rel => exact ⟨_, (decide (a0 > t102)), (by first | rfl | (simp; done) | (simp [*]; done)), H', ⟨by first | omega | exact Nat.le_refl _⟩, by repeat (first | exact Drawn0.refl _ | apply Drawn0.step)⟩
 case rest =>
  clear HC2
  try clear c2; try clear p2; try clear c3; try clear c4; try clear c4b0
  obtain ⟨kq, x19_1, rfl, HA, HJ1, ⟨mc1, rfl⟩⟩ := hcut
  cases kq with
  | zero => exact absurd HA.out (by simp [civil_Date.j0])
  | succ kj1 =>
   have H := HA.out
   clear HA
   simp only [civil_Date.j0] at H
   by_cases c6 : x19_1 = true
   ·subst c6
    have H1 : (some (0, 0, 0, 2)) = some (r1, r2, r3, r4) := by rw [if_pos rfl] at H; exact H
    clear H
    have H := H1
    clear H1
    simp only [Option.some.injEq, Prod.mk.injEq] at H
    obtain ⟨rfl, rfl, rfl, rfl⟩ := H
    go_wp2
    refine bodyPost_ret (results_list (rs := [.tmp 2, .tmp 3, .tmp 4, .tmp 5]) rfl (by simp) (.tmp (.tmp (.tmp (.tmp .nil))))) rfl ?_
    exact ⟨by first | rfl | (simp; done) | (simp [*]; done), by repeat (first | exact Drawn0.refl _ | apply Drawn0.step)⟩
   ·replace c6 := Bool.eq_false_iff.mpr c6
    subst c6
    have H1 : (if (wrap64 ((wrap64 (Int.tdiv (wrap64 ((wrap64 (5 * (wrap64 ((wrap64 ((wrap64 (a0 + 5102378)) - (wrap64 ((wrap64 (Int.tdiv (wrap64 (a0 + 5102378)) 146097)) * 146097)))) - (wrap64 ((wrap64 ((wrap64 (365 * (wrap64 (Int.tdiv (wrap64 ((wrap64 ((wrap64 ((wrap64 ((wrap64 (a0 + 5102378)) - (wrap64 ((wrap64 (Int.tdiv (wrap64 (a0 + 5102378)) 146097)) * 146097)))) - (wrap64 (Int.tdiv (wrap64 ((wrap64 (a0 + 5102378)) - (wrap64 ((wrap64 (Int.tdiv (wrap64 (a0 + 5102378)) 146097)) * 146097)))) 1460)))) + (wrap64 (Int.tdiv (wrap64 ((wrap64 (a0 + 5102378)) - (wrap64 ((wrap64 (Int.tdiv (wrap64 (a0 + 5102378)) 146097)) * 146097)))) 36524)))) - (wrap64 (Int.tdiv (wrap64 ((wrap64 (a0 + 5102378)) - (wrap64 ((wrap64 (Int.tdiv (wrap64 (a0 + 5102378)) 146097)) * 146097)))) 146096)))) 365)))) + (wrap64 (Int.tdiv (wrap64 (Int.tdiv (wrap64 ((wrap64 ((wrap64 ((wrap64 ((wrap64 (a0 + 5102378)) - (wrap64 ((wrap64 (Int.tdiv (wrap64 (a0 + 5102378)) 146097)) * 146097)))) - (wrap64 (Int.tdiv (wrap64 ((wrap64 (a0 + 5102378)) - (wrap64 ((wrap64 (Int.tdiv (wrap64 (a0 + 5102378)) 146097)) * 146097)))) 1460)))) + (wrap64 (Int.tdiv (wrap64 ((wrap64 (a0 + 5102378)) - (wrap64 ((wrap64 (Int.tdiv (wrap64 (a0 + 5102378)) 146097)) * 146097)))) 36524)))) - (wrap64 (Int.tdiv (wrap64 ((wrap64 (a0 + 5102378)) - (wrap64 ((wrap64 (Int.tdiv (wrap64 (a0 + 5102378)) 146097)) * 146097)))) 146096)))) 365)) 4)))) - (wrap64 (Int.tdiv (wrap64 (Int.tdiv (wrap64 ((wrap64 ((wrap64 ((wrap64 ((wrap64 (a0 + 5102378)) - (wrap64 ((wrap64 (Int.tdiv (wrap64 (a0 + 5102378)) 146097)) * 146097)))) - (wrap64 (Int.tdiv (wrap64 ((wrap64 (a0 + 5102378)) - (wrap64 ((wrap64 (Int.tdiv (wrap64 (a0 + 5102378)) 146097)) * 146097)))) 1460)))) + (wrap64 (Int.tdiv (wrap64 ((wrap64 (a0 + 5102378)) - (wrap64 ((wrap64 (Int.tdiv (wrap64 (a0 + 5102378)) 146097)) * 146097)))) 36524)))) - (wrap64 (Int.tdiv (wrap64 ((wrap64 (a0 + 5102378)) - (wrap64 ((wrap64 (Int.tdiv (wrap64 (a0 + 5102378)) 146097)) * 146097)))) 146096)))) 365)) 100)))))))) + 2)) 153)) + 3)) > 12 then (some (wrap64 ((wrap64 ((wrap64 ((wrap64 (Int.tdiv (wrap64 ((wrap64 ((wrap64 ((wrap64 ((wrap64 (a0 + 5102378)) - (wrap64 ((wrap64 (Int.tdiv (wrap64 (a0 + 5102378)) 146097)) * 146097)))) - (wrap64 (Int.tdiv (wrap64 ((wrap64 (a0 + 5102378)) - (wrap64 ((wrap64 (Int.tdiv (wrap64 (a0 + 5102378)) 146097)) * 146097)))) 1460)))) + (wrap64 (Int.tdiv (wrap64 ((wrap64 (a0 + 5102378)) - (wrap64 ((wrap64 (Int.tdiv (wrap64 (a0 + 5102378)) 146097)) * 146097)))) 36524)))) - (wrap64 (Int.tdiv (wrap64 ((wrap64 (a0 + 5102378)) - (wrap64 ((wrap64 (Int.tdiv (wrap64 (a0 + 5102378)) 146097)) * 146097)))) 146096)))) 365)) + (wrap64 ((wrap64 (Int.tdiv (wrap64 (a0 + 5102378)) 146097)) * 400)))) - 12000)) + 1), wrap64 ((wrap64 ((wrap64 (Int.tdiv (wrap64 ((wrap64 (5 * (wrap64 ((wrap64 ((wrap64 (a0 + 5102378)) - (wrap64 ((wrap64 (Int.tdiv (wrap64 (a0 + 5102378)) 146097)) * 146097)))) - (wrap64 ((wrap64 ((wrap64 (365 * (wrap64 (Int.tdiv (wrap64 ((wrap64 ((wrap64 ((wrap64 ((wrap64 (a0 + 5102378)) - (wrap64 ((wrap64 (Int.tdiv (wrap64 (a0 + 5102378)) 146097)) * 146097)))) - (wrap64 (Int.tdiv (wrap64 ((wrap64 (a0 + 5102378)) - (wrap64 ((wrap64 (Int.tdiv (wrap64 (a0 + 5102378)) 146097)) * 146097)))) 1460)))) + (wrap64 (Int.tdiv (wrap64 ((wrap64 (a0 + 5102378)) - (wrap64 ((wrap64 (Int.tdiv (wrap64 (a0 + 5102378)) 146097)) * 146097)))) 36524)))) - (wrap64 (Int.tdiv (wrap64 ((wrap64 (a0 + 5102378)) - (wrap64 ((wrap64 (Int.tdiv (wrap64 (a0 + 5102378)) 146097)) * 146097)))) 146096)))) 365)))) + (wrap64 (Int.tdiv (wrap64 (Int.tdiv (wrap64 ((wrap64 ((wrap64 ((wrap64 ((wrap64 (a0 + 5102378)) - (wrap64 ((wrap64 (Int.tdiv (wrap64 (a0 + 5102378)) 146097)) * 146097)))) - (wrap64 (Int.tdiv (wrap64 ((wrap64 (a0 + 5102378)) - (wrap64 ((wrap64 (Int.tdiv (wrap64 (a0 + 5102378)) 146097)) * 146097)))) 1460)))) + (wrap64 (Int.tdiv (wrap64 ((wrap64 (a0 + 5102378)) - (wrap64 ((wrap64 (Int.tdiv (wrap64 (a0 + 5102378)) 146097)) * 146097)))) 36524)))) - (wrap64 (Int.tdiv (wrap64 ((wrap64 (a0 + 5102378)) - (wrap64 ((wrap64 (Int.tdiv (wrap64 (a0 + 5102378)) 146097)) * 146097)))) 146096)))) 365)) 4)))) - (wrap64 (Int.tdiv (wrap64 (Int.tdiv (wrap64 ((wrap64 ((wrap64 ((wrap64 ((wrap64 (a0 + 5102378)) - (wrap64 ((wrap64 (Int.tdiv (wrap64 (a0 + 5102378)) 146097)) * 146097)))) - (wrap64 (Int.tdiv (wrap64 ((wrap64 (a0 + 5102378)) - (wrap64 ((wrap64 (Int.tdiv (wrap64 (a0 + 5102378)) 146097)) * 146097)))) 1460)))) + (wrap64 (Int.tdiv (wrap64 ((wrap64 (a0 + 5102378)) - (wrap64 ((wrap64 (Int.tdiv (wrap64 (a0 + 5102378)) 146097)) * 146097)))) 36524)))) - (wrap64 (Int.tdiv (wrap64 ((wrap64 (a0 + 5102378)) - (wrap64 ((wrap64 (Int.tdiv (wrap64 (a0 + 5102378)) 146097)) * 146097)))) 146096)))) 365)) 100)))))))) + 2)) 153)) + 3)) - 12), wrap64 ((wrap64 ((wrap64 ((wrap64 ((wrap64 (a0 + 5102378)) - (wrap64 ((wrap64 (Int.tdiv (wrap64 (a0 + 5102378)) 146097)) * 146097)))) - (wrap64 ((wrap64 ((wrap64 (365 * (wrap64 (Int.tdiv (wrap64 ((wrap64 ((wrap64 ((wrap64 ((wrap64 (a0 + 5102378)) - (wrap64 ((wrap64 (Int.tdiv (wrap64 (a0 + 5102378)) 146097)) * 146097)))) - (wrap64 (Int.tdiv (wrap64 ((wrap64 (a0 + 5102378)) - (wrap64 ((wrap64 (Int.tdiv (wrap64 (a0 + 5102378)) 146097)) * 146097)))) 1460)))) + (wrap64 (Int.tdiv (wrap64 ((wrap64 (a0 + 5102378)) - (wrap64 ((wrap64 (Int.tdiv (wrap64 (a0 + 5102378)) 146097)) * 146097)))) 36524)))) - (wrap64 (Int.tdiv (wrap64 ((wrap64 (a0 + 5102378)) - (wrap64 ((wrap64 (Int.tdiv (wrap64 (a0 + 5102378)) 146097)) * 146097)))) 146096)))) 365)))) + (wrap64 (Int.tdiv (wrap64 (Int.tdiv (wrap64 ((wrap64 ((wrap64 ((wrap64 ((wrap64 (a0 + 5102378)) - (wrap64 ((wrap64 (Int.tdiv (wrap64 (a0 + 5102378)) 146097)) * 146097)))) - (wrap64 (Int.tdiv (wrap64 ((wrap64 (a0 + 5102378)) - (wrap64 ((wrap64 (Int.tdiv (wrap64 (a0 + 5102378)) 146097)) * 146097)))) 1460)))) + (wrap64 (Int.tdiv (wrap64 ((wrap64 (a0 + 5102378)) - (wrap64 ((wrap64 (Int.tdiv (wrap64 (a0 + 5102378)) 146097)) * 146097)))) 36524)))) - (wrap64 (Int.tdiv (wrap64 ((wrap64 (a0 + 5102378)) - (wrap64 ((wrap64 (Int.tdiv (wrap64 (a0 + 5102378)) 146097)) * 146097)))) 146096)))) 365)) 4)))) - (wrap64 (Int.tdiv (wrap64 (Int.tdiv (wrap64 ((wrap64 ((wrap64 ((wrap64 ((wrap64 (a0 + 5102378)) - (wrap64 ((wrap64 (Int.tdiv (wrap64 (a0 + 5102378)) 146097)) * 146097)))) - (wrap64 (Int.tdiv (wrap64 ((wrap64 (a0 + 5102378)) - (wrap64 ((wrap64 (Int.tdiv (wrap64 (a0 + 5102378)) 146097)) * 146097)))) 1460)))) + (wrap64 (Int.tdiv (wrap64 ((wrap64 (a0 + 5102378)) - (wrap64 ((wrap64 (Int.tdiv (wrap64 (a0 + 5102378)) 146097)) * 146097)))) 36524)))) - (wrap64 (Int.tdiv (wrap64 ((wrap64 (a0 + 5102378)) - (wrap64 ((wrap64 (Int.tdiv (wrap64 (a0 + 5102378)) 146097)) * 146097)))) 146096)))) 365)) 100)))))) - (wrap64 (Int.tdiv (wrap64 ((wrap64 (153 * (wrap64 (Int.tdiv (wrap64 ((wrap64 (5 * (wrap64 ((wrap64 ((wrap64 (a0 + 5102378)) - (wrap64 ((wrap64 (Int.tdiv (wrap64 (a0 + 5102378)) 146097)) * 146097)))) - (wrap64 ((wrap64 ((wrap64 (365 * (wrap64 (Int.tdiv (wrap64 ((wrap64 ((wrap64 ((wrap64 ((wrap64 (a0 + 5102378)) - (wrap64 ((wrap64 (Int.tdiv (wrap64 (a0 + 5102378)) 146097)) * 146097)))) - (wrap64 (Int.tdiv (wrap64 ((wrap64 (a0 + 5102378)) - (wrap64 ((wrap64 (Int.tdiv (wrap64 (a0 + 5102378)) 146097)) * 146097)))) 1460)))) + (wrap64 (Int.tdiv (wrap64 ((wrap64 (a0 + 5102378)) - (wrap64 ((wrap64 (Int.tdiv (wrap64 (a0 + 5102378)) 146097)) * 146097)))) 36524)))) - (wrap64 (Int.tdiv (wrap64 ((wrap64 (a0 + 5102378)) - (wrap64 ((wrap64 (Int.tdiv (wrap64 (a0 + 5102378)) 146097)) * 146097)))) 146096)))) 365)))) + (wrap64 (Int.tdiv (wrap64 (Int.tdiv (wrap64 ((wrap64 ((wrap64 ((wrap64 ((wrap64 (a0 + 5102378)) - (wrap64 ((wrap64 (Int.tdiv (wrap64 (a0 + 5102378)) 146097)) * 146097)))) - (wrap64 (Int.tdiv (wrap64 ((wrap64 (a0 + 5102378)) - (wrap64 ((wrap64 (Int.tdiv (wrap64 (a0 + 5102378)) 146097)) * 146097)))) 1460)))) + (wrap64 (Int.tdiv (wrap64 ((wrap64 (a0 + 5102378)) - (wrap64 ((wrap64 (Int.tdiv (wrap64 (a0 + 5102378)) 146097)) * 146097)))) 36524)))) - (wrap64 (Int.tdiv (wrap64 ((wrap64 (a0 + 5102378)) - (wrap64 ((wrap64 (Int.tdiv (wrap64 (a0 + 5102378)) 146097)) * 146097)))) 146096)))) 365)) 4)))) - (wrap64 (Int.tdiv (wrap64 (Int.tdiv (wrap64 ((wrap64 ((wrap64 ((wrap64 ((wrap64 (a0 + 5102378)) - (wrap64 ((wrap64 (Int.tdiv (wrap64 (a0 + 5102378)) 146097)) * 146097)))) - (wrap64 (Int.tdiv (wrap64 ((wrap64 (a0 + 5102378)) - (wrap64 ((wrap64 (Int.tdiv (wrap64 (a0 + 5102378)) 146097)) * 146097)))) 1460)))) + (wrap64 (Int.tdiv (wrap64 ((wrap64 (a0 + 5102378)) - (wrap64 ((wrap64 (Int.tdiv (wrap64 (a0 + 5102378)) 146097)) * 146097)))) 36524)))) - (wrap64 (Int.tdiv (wrap64 ((wrap64 (a0 + 5102378)) - (wrap64 ((wrap64 (Int.tdiv (wrap64 (a0 + 5102378)) 146097)) * 146097)))) 146096)))) 365)) 100)))))))) + 2)) 153)))) + 2)) 5)))) + 1), 0)) else (some (wrap64 ((wrap64 ((wrap64 (Int.tdiv (wrap64 ((wrap64 ((wrap64 ((wrap64 ((wrap64 (a0 + 5102378)) - (wrap64 ((wrap64 (Int.tdiv (wrap64 (a0 + 5102378)) 146097)) * 146097)))) - (wrap64 (Int.tdiv (wrap64 ((wrap64 (a0 + 5102378)) - (wrap64 ((wrap64 (Int.tdiv (wrap64 (a0 + 5102378)) 146097)) * 146097)))) 1460)))) + (wrap64 (Int.tdiv (wrap64 ((wrap64 (a0 + 5102378)) - (wrap64 ((wrap64 (Int.tdiv (wrap64 (a0 + 5102378)) 146097)) * 146097)))) 36524)))) - (wrap64 (Int.tdiv (wrap64 ((wrap64 (a0 + 5102378)) - (wrap64 ((wrap64 (Int.tdiv (wrap64 (a0 + 5102378)) 146097)) * 146097)))) 146096)))) 365)) + (wrap64 ((wrap64 (Int.tdiv (wrap64 (a0 + 5102378)) 146097)) * 400)))) - 12000), wrap64 ((wrap64 (Int.tdiv (wrap64 ((wrap64 (5 * (wrap64 ((wrap64 ((wrap64 (a0 + 5102378)) - (wrap64 ((wrap64 (Int.tdiv (wrap64 (a0 + 5102378)) 146097)) * 146097)))) - (wrap64 ((wrap64 ((wrap64 (365 * (wrap64 (Int.tdiv (wrap64 ((wrap64 ((wrap64 ((wrap64 ((wrap64 (a0 + 5102378)) - (wrap64 ((wrap64 (Int.tdiv (wrap64 (a0 + 5102378)) 146097)) * 146097)))) - (wrap64 (Int.tdiv (wrap64 ((wrap64 (a0 + 5102378)) - (wrap64 ((wrap64 (Int.tdiv (wrap64 (a0 + 5102378)) 146097)) * 146097)))) 1460)))) + (wrap64 (Int.tdiv (wrap64 ((wrap64 (a0 + 5102378)) - (wrap64 ((wrap64 (Int.tdiv (wrap64 (a0 + 5102378)) 146097)) * 146097)))) 36524)))) - (wrap64 (Int.tdiv (wrap64 ((wrap64 (a0 + 5102378)) - (wrap64 ((wrap64 (Int.tdiv (wrap64 (a0 + 5102378)) 146097)) * 146097)))) 146096)))) 365)))) + (wrap64 (Int.tdiv (wrap64 (Int.tdiv (wrap64 ((wrap64 ((wrap64 ((wrap64 ((wrap64 (a0 + 5102378)) - (wrap64 ((wrap64 (Int.tdiv (wrap64 (a0 + 5102378)) 146097)) * 146097)))) - (wrap64 (Int.tdiv (wrap64 ((wrap64 (a0 + 5102378)) - (wrap64 ((wrap64 (Int.tdiv (wrap64 (a0 + 5102378)) 146097)) * 146097)))) 1460)))) + (wrap64 (Int.tdiv (wrap64 ((wrap64 (a0 + 5102378)) - (wrap64 ((wrap64 (Int.tdiv (wrap64 (a0 + 5102378)) 146097)) * 146097)))) 36524)))) - (wrap64 (Int.tdiv (wrap64 ((wrap64 (a0 + 5102378)) - (wrap64 ((wrap64 (Int.tdiv (wrap64 (a0 + 5102378)) 146097)) * 146097)))) 146096)))) 365)) 4)))) - (wrap64 (Int.tdiv (wrap64 (Int.tdiv (wrap64 ((wrap64 ((wrap64 ((wrap64 ((wrap64 (a0 + 5102378)) - (wrap64 ((wrap64 (Int.tdiv (wrap64 (a0 + 5102378)) 146097)) * 146097)))) - (wrap64 (Int.tdiv (wrap64 ((wrap64 (a0 + 5102378)) - (wrap64 ((wrap64 (Int.tdiv (wrap64 (a0 + 5102378)) 146097)) * 146097)))) 1460)))) + (wrap64 (Int.tdiv (wrap64 ((wrap64 (a0 + 5102378)) - (wrap64 ((wrap64 (Int.tdiv (wrap64 (a0 + 5102378)) 146097)) * 146097)))) 36524)))) - (wrap64 (Int.tdiv (wrap64 ((wrap64 (a0 + 5102378)) - (wrap64 ((wrap64 (Int.tdiv (wrap64 (a0 + 5102378)) 146097)) * 146097)))) 146096)))) 365)) 100)))))))) + 2)) 153)) + 3), wrap64 ((wrap64 ((wrap64 ((wrap64 ((wrap64 (a0 + 5102378)) - (wrap64 ((wrap64 (Int.tdiv (wrap64 (a0 + 5102378)) 146097)) * 146097)))) - (wrap64 ((wrap64 ((wrap64 (365 * (wrap64 (Int.tdiv (wrap64 ((wrap64 ((wrap64 ((wrap64 ((wrap64 (a0 + 5102378)) - (wrap64 ((wrap64 (Int.tdiv (wrap64 (a0 + 5102378)) 146097)) * 146097)))) - (wrap64 (Int.tdiv (wrap64 ((wrap64 (a0 + 5102378)) - (wrap64 ((wrap64 (Int.tdiv (wrap64 (a0 + 5102378)) 146097)) * 146097)))) 1460)))) + (wrap64 (Int.tdiv (wrap64 ((wrap64 (a0 + 5102378)) - (wrap64 ((wrap64 (Int.tdiv (wrap64 (a0 + 5102378)) 146097)) * 146097)))) 36524)))) - (wrap64 (Int.tdiv (wrap64 ((wrap64 (a0 + 5102378)) - (wrap64 ((wrap64 (Int.tdiv (wrap64 (a0 + 5102378)) 146097)) * 146097)))) 146096)))) 365)))) + (wrap64 (Int.tdiv (wrap64 (Int.tdiv (wrap64 ((wrap64 ((wrap64 ((wrap64 ((wrap64 (a0 + 5102378)) - (wrap64 ((wrap64 (Int.tdiv (wrap64 (a0 + 5102378)) 146097)) * 146097)))) - (wrap64 (Int.tdiv (wrap64 ((wrap64 (a0 + 5102378)) - (wrap64 ((wrap64 (Int.tdiv (wrap64 (a0 + 5102378)) 146097)) * 146097)))) 1460)))) + (wrap64 (Int.tdiv (wrap64 ((wrap64 (a0 + 5102378)) - (wrap64 ((wrap64 (Int.tdiv (wrap64 (a0 + 5102378)) 146097)) * 146097)))) 36524)))) - (wrap64 (Int.tdiv (wrap64 ((wrap64 (a0 + 5102378)) - (wrap64 ((wrap64 (Int.tdiv (wrap64 (a0 + 5102378)) 146097)) * 146097)))) 146096)))) 365)) 4)))) - (wrap64 (Int.tdiv (wrap64 (Int.tdiv (wrap64 ((wrap64 ((wrap64 ((wrap64 ((wrap64 (a0 + 5102378)) - (wrap64 ((wrap64 (Int.tdiv (wrap64 (a0 + 5102378)) 146097)) * 146097)))) - (wrap64 (Int.tdiv (wrap64 ((wrap64 (a0 + 5102378)) - (wrap64 ((wrap64 (Int.tdiv (wrap64 (a0 + 5102378)) 146097)) * 146097)))) 1460)))) + (wrap64 (Int.tdiv (wrap64 ((wrap64 (a0 + 5102378)) - (wrap64 ((wrap64 (Int.tdiv (wrap64 (a0 + 5102378)) 146097)) * 146097)))) 36524)))) - (wrap64 (Int.tdiv (wrap64 ((wrap64 (a0 + 5102378)) - (wrap64 ((wrap64 (Int.tdiv (wrap64 (a0 + 5102378)) 146097)) * 146097)))) 146096)))) 365)) 100)))))) - (wrap64 (Int.tdiv (wrap64 ((wrap64 (153 * (wrap64 (Int.tdiv (wrap64 ((wrap64 (5 * (wrap64 ((wrap64 ((wrap64 (a0 + 5102378)) - (wrap64 ((wrap64 (Int.tdiv (wrap64 (a0 + 5102378)) 146097)) * 146097)))) - (wrap64 ((wrap64 ((wrap64 (365 * (wrap64 (Int.tdiv (wrap64 ((wrap64 ((wrap64 ((wrap64 ((wrap64 (a0 + 5102378)) - (wrap64 ((wrap64 (Int.tdiv (wrap64 (a0 + 5102378)) 146097)) * 146097)))) - (wrap64 (Int.tdiv (wrap64 ((wrap64 (a0 + 5102378)) - (wrap64 ((wrap64 (Int.tdiv (wrap64 (a0 + 5102378)) 146097)) * 146097)))) 1460)))) + (wrap64 (Int.tdiv (wrap64 ((wrap64 (a0 + 5102378)) - (wrap64 ((wrap64 (Int.tdiv (wrap64 (a0 + 5102378)) 146097)) * 146097)))) 36524)))) - (wrap64 (Int.tdiv (wrap64 ((wrap64 (a0 + 5102378)) - (wrap64 ((wrap64 (Int.tdiv (wrap64 (a0 + 5102378)) 146097)) * 146097)))) 146096)))) 365)))) + (wrap64 (Int.tdiv (wrap64 (Int.tdiv (wrap64 ((wrap64 ((wrap64 ((wrap64 ((wrap64 (a0 + 5102378)) - (wrap64 ((wrap64 (Int.tdiv (wrap64 (a0 + 5102378)) 146097)) * 146097)))) - (wrap64 (Int.tdiv (wrap64 ((wrap64 (a0 + 5102378)) - (wrap64 ((wrap64 (Int.tdiv (wrap64 (a0 + 5102378)) 146097)) * 146097)))) 1460)))) + (wrap64 (Int.tdiv (wrap64 ((wrap64 (a0 + 5102378)) - (wrap64 ((wrap64 (Int.tdiv (wrap64 (a0 + 5102378)) 146097)) * 146097)))) 36524)))) - (wrap64 (Int.tdiv (wrap64 ((wrap64 (a0 + 5102378)) - (wrap64 ((wrap64 (Int.tdiv (wrap64 (a0 + 5102378)) 146097)) * 146097)))) 146096)))) 365)) 4)))) - (wrap64 (Int.tdiv (wrap64 (Int.tdiv (wrap64 ((wrap64 ((wrap64 ((wrap64 ((wrap64 (a0 + 5102378)) - (wrap64 ((wrap64 (Int.tdiv (wrap64 (a0 + 5102378)) 146097)) * 146097)))) - (wrap64 (Int.tdiv (wrap64 ((wrap64 (a0 + 5102378)) - (wrap64 ((wrap64 (Int.tdiv (wrap64 (a0 + 5102378)) 146097)) * 146097)))) 1460)))) + (wrap64 (Int.tdiv (wrap64 ((wrap64 (a0 + 5102378)) - (wrap64 ((wrap64 (Int.tdiv (wrap64 (a0 + 5102378)) 146097)) * 146097)))) 36524)))) - (wrap64 (Int.tdiv (wrap64 ((wrap64 (a0 + 5102378)) - (wrap64 ((wrap64 (Int.tdiv (wrap64 (a0 + 5102378)) 146097)) * 146097)))) 146096)))) 365)) 100)))))))) + 2)) 153)))) + 2)) 5)))) + 1), 0))) = some (r1, r2, r3, r4) := by rw [if_neg (show ¬ (false = true) by decide)] at H; exact H
    clear H
    have H := H1
    clear H1
    by_cases c7 : (wrap64 ((wrap64 (Int.tdiv (wrap64 ((wrap64 (5 * (wrap64 ((wrap64 ((wrap64 (a0 + 5102378)) - (wrap64 ((wrap64 (Int.tdiv (wrap64 (a0 + 5102378)) 146097)) * 146097)))) - (wrap64 ((wrap64 ((wrap64 (365 * (wrap64 (Int.tdiv (wrap64 ((wrap64 ((wrap64 ((wrap64 ((wrap64 (a0 + 5102378)) - (wrap64 ((wrap64 (Int.tdiv (wrap64 (a0 + 5102378)) 146097)) * 146097)))) - (wrap64 (Int.tdiv (wrap64 ((wrap64 (a0 + 5102378)) - (wrap64 ((wrap64 (Int.tdiv (wrap64 (a0 + 5102378)) 146097)) * 146097)))) 1460)))) + (wrap64 (Int.tdiv (wrap64 ((wrap64 (a0 + 5102378)) - (wrap64 ((wrap64 (Int.tdiv (wrap64 (a0 + 5102378)) 146097)) * 146097)))) 36524)))) - (wrap64 (Int.tdiv (wrap64 ((wrap64 (a0 + 5102378)) - (wrap64 ((wrap64 (Int.tdiv (wrap64 (a0 + 5102378)) 146097)) * 146097)))) 146096)))) 365)))) + (wrap64 (Int.tdiv (wrap64 (Int.tdiv (wrap64 ((wrap64 ((wrap64 ((wrap64 ((wrap64 (a0 + 5102378)) - (wrap64 ((wrap64 (Int.tdiv (wrap64 (a0 + 5102378)) 146097)) * 146097)))) - (wrap64 (Int.tdiv (wrap64 ((wrap64 (a0 + 5102378)) - (wrap64 ((wrap64 (Int.tdiv (wrap64 (a0 + 5102378)) 146097)) * 146097)))) 1460)))) + (wrap64 (Int.tdiv (wrap64 ((wrap64 (a0 + 5102378)) - (wrap64 ((wrap64 (Int.tdiv (wrap64 (a0 + 5102378)) 146097)) * 146097)))) 36524)))) - (wrap64 (Int.tdiv (wrap64 ((wrap64 (a0 + 5102378)) - (wrap64 ((wrap64 (Int.tdiv (wrap64 (a0 + 5102378)) 146097)) * 146097)))) 146096)))) 365)) 4)))) - (wrap64 (Int.tdiv (wrap64 (Int.tdiv (wrap64 ((wrap64 ((wrap64 ((wrap64 ((wrap64 (a0 + 5102378)) - (wrap64 ((wrap64 (Int.tdiv (wrap64 (a0 + 5102378)) 146097)) * 146097)))) - (wrap64 (Int.tdiv (wrap64 ((wrap64 (a0 + 5102378)) - (wrap64 ((wrap64 (Int.tdiv (wrap64 (a0 + 5102378)) 146097)) * 146097)))) 1460)))) + (wrap64 (Int.tdiv (wrap64 ((wrap64 (a0 + 5102378)) - (wrap64 ((wrap64 (Int.tdiv (wrap64 (a0 + 5102378)) 146097)) * 146097)))) 36524)))) - (wrap64 (Int.tdiv (wrap64 ((wrap64 (a0 + 5102378)) - (wrap64 ((wrap64 (Int.tdiv (wrap64 (a0 + 5102378)) 146097)) * 146097)))) 146096)))) 365)) 100)))))))) + 2)) 153)) + 3)) > 12
    ·rw [if_pos c7] at H
     have c7b0 : decide (12 < (wrap64 ((wrap64 (Int.tdiv (wrap64 ((wrap64 (5 * (wrap64 ((wrap64 ((wrap64 (a0 + 5102378)) - (wrap64 ((wrap64 (Int.tdiv (wrap64 (a0 + 5102378)) 146097)) * 146097)))) - (wrap64 ((wrap64 ((wrap64 (365 * (wrap64 (Int.tdiv (wrap64 ((wrap64 ((wrap64 ((wrap64 ((wrap64 (a0 + 5102378)) - (wrap64 ((wrap64 (Int.tdiv (wrap64 (a0 + 5102378)) 146097)) * 146097)))) - (wrap64 (Int.tdiv (wrap64 ((wrap64 (a0 + 5102378)) - (wrap64 ((wrap64 (Int.tdiv (wrap64 (a0 + 5102378)) 146097)) * 146097)))) 1460)))) + (wrap64 (Int.tdiv (wrap64 ((wrap64 (a0 + 5102378)) - (wrap64 ((wrap64 (Int.tdiv (wrap64 (a0 + 5102378)) 146097)) * 146097)))) 36524)))) - (wrap64 (Int.tdiv (wrap64 ((wrap64 (a0 + 5102378)) - (wrap64 ((wrap64 (Int.tdiv (wrap64 (a0 + 5102378)) 146097)) * 146097)))) 146096)))) 365)))) + (wrap64 (Int.tdiv (wrap64 (Int.tdiv (wrap64 ((wrap64 ((wrap64 ((wrap64 ((wrap64 (a0 + 5102378)) - (wrap64 ((wrap64 (Int.tdiv (wrap64 (a0 + 5102378)) 146097)) * 146097)))) - (wrap64 (Int.tdiv (wrap64 ((wrap64 (a0 + 5102378)) - (wrap64 ((wrap64 (Int.tdiv (wrap64 (a0 + 5102378)) 146097)) * 146097)))) 1460)))) + (wrap64 (Int.tdiv (wrap64 ((wrap64 (a0 + 5102378)) - (wrap64 ((wrap64 (Int.tdiv (wrap64 (a0 + 5102378)) 146097)) * 146097)))) 36524)))) - (wrap64 (Int.tdiv (wrap64 ((wrap64 (a0 + 5102378)) - (wrap64 ((wrap64 (Int.tdiv (wrap64 (a0 + 5102378)) 146097)) * 146097)))) 146096)))) 365)) 4)))) - (wrap64 (Int.tdiv (wrap64 (Int.tdiv (wrap64 ((wrap64 ((wrap64 ((wrap64 ((wrap64 (a0 + 5102378)) - (wrap64 ((wrap64 (Int.tdiv (wrap64 (a0 + 5102378)) 146097)) * 146097)))) - (wrap64 (Int.tdiv (wrap64 ((wrap64 (a0 + 5102378)) - (wrap64 ((wrap64 (Int.tdiv (wrap64 (a0 + 5102378)) 146097)) * 146097)))) 1460)))) + (wrap64 (Int.tdiv (wrap64 ((wrap64 (a0 + 5102378)) - (wrap64 ((wrap64 (Int.tdiv (wrap64 (a0 + 5102378)) 146097)) * 146097)))) 36524)))) - (wrap64 (Int.tdiv (wrap64 ((wrap64 (a0 + 5102378)) - (wrap64 ((wrap64 (Int.tdiv (wrap64 (a0 + 5102378)) 146097)) * 146097)))) 146096)))) 365)) 100)))))))) + 2)) 153)) + 3))) = true := decide_eq_true c7
     clear c7
     simp only [Option.some.injEq, Prod.mk.injEq] at H
     obtain ⟨rfl, rfl, rfl, rfl⟩ := H
     go_wp2
     refine bodyPost_ret (results_list (rs := [.tmp 2, .tmp 3, .tmp 4, .tmp 5]) rfl (by simp) (.tmp (.tmp (.tmp (.tmp .nil))))) rfl ?_
     exact ⟨by first | rfl | (simp; done) | (simp [*]; done), by repeat (first | exact Drawn0.refl _ | apply Drawn0.step)⟩
    ·rw [if_neg c7] at H
     have c7b0 : decide (12 < (wrap64 ((wrap64 (Int.tdiv (wrap64 ((wrap64 (5 * (wrap64 ((wrap64 ((wrap64 (a0 + 5102378)) - (wrap64 ((wrap64 (Int.tdiv (wrap64 (a0 + 5102378)) 146097)) * 146097)))) - (wrap64 ((wrap64 ((wrap64 (365 * (wrap64 (Int.tdiv (wrap64 ((wrap64 ((wrap64 ((wrap64 ((wrap64 (a0 + 5102378)) - (wrap64 ((wrap64 (Int.tdiv (wrap64 (a0 + 5102378)) 146097)) * 146097)))) - (wrap64 (Int.tdiv (wrap64 ((wrap64 (a0 + 5102378)) - (wrap64 ((wrap64 (Int.tdiv (wrap64 (a0 + 5102378)) 146097)) * 146097)))) 1460)))) + (wrap64 (Int.tdiv (wrap64 ((wrap64 (a0 + 5102378)) - (wrap64 ((wrap64 (Int.tdiv (wrap64 (a0 + 5102378)) 146097)) * 146097)))) 36524)))) - (wrap64 (Int.tdiv (wrap64 ((wrap64 (a0 + 5102378)) - (wrap64 ((wrap64 (Int.tdiv (wrap64 (a0 + 5102378)) 146097)) * 146097)))) 146096)))) 365)))) + (wrap64 (Int.tdiv (wrap64 (Int.tdiv (wrap64 ((wrap64 ((wrap64 ((wrap64 ((wrap64 (a0 + 5102378)) - (wrap64 ((wrap64 (Int.tdiv (wrap64 (a0 + 5102378)) 146097)) * 146097)))) - (wrap64 (Int.tdiv (wrap64 ((wrap64 (a0 + 5102378)) - (wrap64 ((wrap64 (Int.tdiv (wrap64 (a0 + 5102378)) 146097)) * 146097)))) 1460)))) + (wrap64 (Int.tdiv (wrap64 ((wrap64 (a0 + 5102378)) - (wrap64 ((wrap64 (Int.tdiv (wrap64 (a0 + 5102378)) 146097)) * 146097)))) 36524)))) - (wrap64 (Int.tdiv (wrap64 ((wrap64 (a0 + 5102378)) - (wrap64 ((wrap64 (Int.tdiv (wrap64 (a0 + 5102378)) 146097)) * 146097)))) 146096)))) 365)) 4)))) - (wrap64 (Int.tdiv (wrap64 (Int.tdiv (wrap64 ((wrap64 ((wrap64 ((wrap64 ((wrap64 (a0 + 5102378)) - (wrap64 ((wrap64 (Int.tdiv (wrap64 (a0 + 5102378)) 146097)) * 146097)))) - (wrap64 (Int.tdiv (wrap64 ((wrap64 (a0 + 5102378)) - (wrap64 ((wrap64 (Int.tdiv (wrap64 (a0 + 5102378)) 146097)) * 146097)))) 1460)))) + (wrap64 (Int.tdiv (wrap64 ((wrap64 (a0 + 5102378)) - (wrap64 ((wrap64 (Int.tdiv (wrap64 (a0 + 5102378)) 146097)) * 146097)))) 36524)))) - (wrap64 (Int.tdiv (wrap64 ((wrap64 (a0 + 5102378)) - (wrap64 ((wrap64 (Int.tdiv (wrap64 (a0 + 5102378)) 146097)) * 146097)))) 146096)))) 365)) 100)))))))) + 2)) 153)) + 3))) = false := decide_eq_false c7
     clear c7
     simp only [Option.some.injEq, Prod.mk.injEq] at H
     obtain ⟨rfl, rfl, rfl, rfl⟩ := H
     go_wp2
     refine bodyPost_ret (results_list (rs := [.tmp 2, .tmp 3, .tmp 4, .tmp 5]) rfl (by simp) (.tmp (.tmp (.tmp (.tmp .nil))))) rfl ?_
     exact ⟨by first | rfl | (simp; done) | (simp [*]; done), by repeat (first | exact Drawn0.refl _ | apply Drawn0.step)⟩
def den_year.f (k : Nat) (a0 : Int) : Option (Int × Bool) := (civil_Clock.f a0).bind fun bt103 => ((civil_Date.f k bt103.1).bind fun bt105 => (if bt105.2.2.2 = 0 then (some (bt105.1, decide ((mx bt105.1 (wrap64 (-bt105.1))) ≤ 9998))) else (some (bt105.1, false))))
theorem den_year.mono : ∀ a0 k, LeO (den_year.f k a0) (den_year.f (k + 1) a0) := by
 intro a0 k
 unfold den_year.f
 repeat' first
   | (with_reducible exact civil_Date.mono _ _)
   | (with_reducible exact LeO.refl _)
   | (with_reducible exact LeO.none _)
   | (with_reducible refine LeO.ite ?_ ?_)
   | (with_reducible refine LeO.bind ?_ (fun _ => ?_))
   | exact civil_Date.mono _ _
   | exact LeO.none _
   | refine LeO.ite ?_ ?_
   | refine LeO.bind ?_ (fun _ => ?_)
set_option maxHeartbeats 8000000 in
set_option maxRecDepth 100000 in
theorem den_year.calls (k : Nat) (a0 : Int) (r1 : Int) (r2 : Bool) (w : World) (h : den_year.f k a0 = some (r1, r2)) :
  Calls Try.prog 14 #[.int .i64 a0] w fun e w' => e = .returned (.tuple #[.int .i64 r1, .bool r2]) ∧ Below w.heap.size w w' := by
 have HB := aM (Below.refl w.heap.size w)
 have H : ((civil_Clock.f a0).bind fun bt103 => ((civil_Date.f k bt103.1).bind fun bt105 => (if bt105.2.2.2 = 0 then (some (bt105.1, decide ((mx bt105.1 (wrap64 (-bt105.1))) ≤ 9998))) else (some (bt105.1, false))))) = some (r1, r2) := h
 clear h
 replace H := Option.bind_eq_some_iff.mp H
 obtain ⟨⟨t103, t104⟩, A20, H⟩ := H
 replace H : ((civil_Date.f k t103).bind fun bt105 => (if bt105.2.2.2 = 0 then (some (bt105.1, decide ((mx bt105.1 (wrap64 (-bt105.1))) ≤ 9998))) else (some (bt105.1, false)))) = some (r1, r2) := H
 have A2 := aM A20
 clear A20
 replace H := Option.bind_eq_some_iff.mp H
 obtain ⟨⟨t105, t106, t107, t108⟩, A30, H⟩ := H
 replace H : (if t108 = 0 then (some (t105, decide ((mx t105 (wrap64 (-t105))) ≤ 9998))) else (some (t105, false))) = some (r1, r2) := H
 have A3 := aM A30
 clear A30
 by_cases c4 : t108 = 0
 ·rw [if_pos c4] at H
  have c4b0 : (t108 == 0) = true := beq_iff_eq.mpr c4
  have c4b1 : (t108 != 0) = false := bne_eq_false_iff_eq.mpr c4
  clear c4
  obtain ⟨ji5, hji5⟩ : ∃ j_ : Int, (mx t105 (wrap64 (-t105))) = j_ := ⟨_, rfl⟩
  replace H : (some (t105, decide ((ji5) ≤ 9998))) = some (r1, r2) := by first | (rw [hji5] at H; exact H) | (simp only [hji5] at H ⊢; exact H)
  (try rw [hji5] at A2)
  (try rw [hji5] at A3)
  have hji5_ : (if t105 < (wrap64 (-t105)) then (wrap64 (-t105)) else t105) = ji5 := hji5
  simp only [Option.some.injEq, Prod.mk.injEq] at H
  obtain ⟨rfl, rfl⟩ := H
  go_enter Try.func14, Try.ntmps14
  go_wp2_with (first | ((with_reducible refine gate_callee (f := 22) rfl ?_); refine goesL_ (some 12) rfl rfl Try.func22 (by kernel_rfl) rfl #[.int .i64 a0] rfl (by (try simp only [List.map_toArray, List.map_cons, List.map_nil]); first | done | rfl | (simp only [List.length_drop, List.length_take]; rfl)) ?_; (with_reducible refine (civil_Clock.calls a0 t103 t104 _ A2.out).mono ?_); rintro e w' ⟨rfl, ⟨nd, rfl⟩⟩; refine ⟨_, rfl, ?_⟩) | ((with_reducible refine gate_callee (f := 23) rfl ?_); refine goesL_ (some 17) rfl rfl Try.func23 (by kernel_rfl) rfl #[.int .i64 t103] rfl (by (try simp only [List.map_toArray, List.map_cons, List.map_nil]); first | done | rfl | (simp only [List.length_drop, List.length_take]; rfl)) ?_; (with_reducible refine (civil_Date.calls k t103 t105 t106 t107 t108 _ A3.out).mono ?_); rintro e w' ⟨rfl, ⟨nd, rfl⟩⟩; refine ⟨_, rfl, ?_⟩))
  go_ret2
  exact ⟨by first | rfl | (simp [errW_none, errW_some] <;> rfl) | (simp only [← hji5]; first | rfl | (simp [errW_none, errW_some] <;> rfl)) | (simp [*, errW_none, errW_some] <;> rfl), by repeat (first | (with_reducible first | exact HB.out | apply lA | apply lN | apply lD) | exact HB.out)⟩
 ·rw [if_neg c4] at H
  have c4b0 : (t108 == 0) = false := beq_eq_false_iff_ne.mpr c4
  have c4b1 : (t108 != 0) = true := bne_iff_ne.mpr c4
  simp only [Option.some.injEq, Prod.mk.injEq] at H
  obtain ⟨rfl, rfl⟩ := H
  go_enter Try.func14, Try.ntmps14
  go_wp2_with (first | ((with_reducible refine gate_callee (f := 22) rfl ?_); refine goesL_ (some 12) rfl rfl Try.func22 (by kernel_rfl) rfl #[.int .i64 a0] rfl (by (try simp only [List.map_toArray, List.map_cons, List.map_nil]); first | done | rfl | (simp only [List.length_drop, List.length_take]; rfl)) ?_; (with_reducible refine (civil_Clock.calls a0 t103 t104 _ A2.out).mono ?_); rintro e w' ⟨rfl, ⟨nd, rfl⟩⟩; refine ⟨_, rfl, ?_⟩) | ((with_reducible refine gate_callee (f := 23) rfl ?_); refine goesL_ (some 17) rfl rfl Try.func23 (by kernel_rfl) rfl #[.int .i64 t103] rfl (by (try simp only [List.map_toArray, List.map_cons, List.map_nil]); first | done | rfl | (simp only [List.length_drop, List.length_take]; rfl)) ?_; (with_reducible refine (civil_Date.calls k t103 t105 t106 t107 t108 _ A3.out).mono ?_); rintro e w' ⟨rfl, ⟨nd, rfl⟩⟩; refine ⟨_, rfl, ?_⟩))
  go_ret2
  exact ⟨by first | rfl | (simp [errW_none, errW_some] <;> rfl) | (simp [*, errW_none, errW_some] <;> rfl), by repeat (first | (with_reducible first | exact HB.out | apply lA | apply lN | apply lD) | exact HB.out)⟩
def expand_lasting_first.f (a0_0 : ByteArray) (a0_1 : Int) (a0_2 : Int) (a0_3 : Int) (a0_4 : Int) (a0_5 : Int) (a0_6 : Int) (a0_7 : Int) (a0_8 : Int) (a0_9 : Int) (a0_10 : ByteArray) : Option (Int) := some (mx a0_1 1)
set_option maxHeartbeats 8000000 in
set_option maxRecDepth 100000 in
theorem expand_lasting_first.calls (a0_0 : ByteArray) (a0_1 : Int) (a0_2 : Int) (a0_3 : Int) (a0_4 : Int) (a0_5 : Int) (a0_6 : Int) (a0_7 : Int) (a0_8 : Int) (a0_9 : Int) (a0_10 : ByteArray) (r : Int) (w : World) (h : expand_lasting_first.f a0_0 a0_1 a0_2 a0_3 a0_4 a0_5 a0_6 a0_7 a0_8 a0_9 a0_10 = some r) :
  Calls Try.prog 52 #[.agg #[.string a0_0, .int .i64 a0_1, .int .i64 a0_2, .int .i64 a0_3, .int .i64 a0_4, .int .i64 a0_5, .int .i64 a0_6, .int .i64 a0_7, .int .i64 a0_8, .int .i64 a0_9, .string a0_10]] w fun e w' => e = .returned (.int .i64 r) ∧ Below w.heap.size w w' := by
 have hu96 := Try.underlying96
 have HB := aM (Below.refl w.heap.size w)
 have H : (some (mx a0_1 1)) = some r := h
 clear h
 obtain ⟨ji2, hji2⟩ : ∃ j_ : Int, (mx a0_1 1) = j_ := ⟨_, rfl⟩
 replace H : (some ji2) = some r := by first | (rw [hji2] at H; exact H) | (simp only [hji2] at H ⊢; exact H)
 (try (have hji2l : 1 ≤ ji2 := by (rw [← hji2]; unfold mx; (repeat' split) <;> omega)))
 (try (have hji2m : 0 ≤ ji2 := by omega))
 have hji2_ : (if a0_1 < 1 then 1 else a0_1) = ji2 := hji2
 obtain rfl := Option.some.inj H
 go_enter Try.func52, Try.ntmps52
 go_wp2_with (first | ((with_reducible refine gate_dst (N := 1) rfl ?_); refine box_event ?hg (N := 1) ?hd (cs := #[.string a0_0, .int .i64 a0_1, .int .i64 a0_2, .int .i64 a0_3, .int .i64 a0_4, .int .i64 a0_5, .int .i64 a0_6, .int .i64 a0_7, .int .i64 a0_8, .int .i64 a0_9, .string a0_10]) (t := 96) ?hr ?_; (case hd => rfl); (case hg => rfl); (case hr => first | (go_simp; done) | (go_simp; rfl)); intro gb109 hg w3 hbox hb; have n0_ := aM (below_step (by repeat (first | (with_reducible first | exact HB.out | apply lA | apply lN | apply lD) | exact HB.out)) hb); have n1_ := aM (hbox); have n2_ := aM ((by rw [hg]; exact (below_size (by repeat (first | (with_reducible first | exact HB.out | apply lA | apply lN | apply lD) | exact HB.out))) : w.heap.size ≤ gb109)); have n3_ := aM ((by rw [hg]; exact (below_size (by repeat (first | (with_reducible first | exact HB.out | apply lA | apply lN | apply lD) | exact HB.out))) : w.heap.size ≤ gb109)); clear HB; have HB := n0_; have BK109 := n1_; have GW109 := n2_; have GE109 := n3_; clear n0_ n1_ n2_ n3_; clear hb hbox hg; obtain ⟨hcz4_0, hcz4_1, hcz4_2, hcz4_3, hcz4_4, hcz4_5, hcz4_6, hcz4_7, hcz4_8, hcz4_9, hcz4_10⟩ := blkC11 BK109.out; obtain ⟨hfz4_0, hfz4_1, hfz4_2, hfz4_3, hfz4_4, hfz4_5, hfz4_6, hfz4_7, hfz4_8, hfz4_9, hfz4_10⟩ := blkF11 BK109.out))
 go_ret
 exact ⟨by first | rfl | (simp [errW_none, errW_some] <;> rfl) | (simp only [← hji2]; first | rfl | (simp [errW_none, errW_some] <;> rfl)) | (simp [*, errW_none, errW_some] <;> rfl), by repeat (first | (with_reducible first | exact HB.out | apply lA | apply lN | apply lD | refine lS ?_ GE109.out) | exact HB.out)⟩
def expand_lasting_last.f (a0_0 : ByteArray) (a0_1 : Int) (a0_2 : Int) (a0_3 : Int) (a0_4 : Int) (a0_5 : Int) (a0_6 : Int) (a0_7 : Int) (a0_8 : Int) (a0_9 : Int) (a0_10 : ByteArray) : Option (Int) := some (mn a0_2 9999)
set_option maxHeartbeats 8000000 in
set_option maxRecDepth 100000 in
theorem expand_lasting_last.calls (a0_0 : ByteArray) (a0_1 : Int) (a0_2 : Int) (a0_3 : Int) (a0_4 : Int) (a0_5 : Int) (a0_6 : Int) (a0_7 : Int) (a0_8 : Int) (a0_9 : Int) (a0_10 : ByteArray) (r : Int) (w : World) (h : expand_lasting_last.f a0_0 a0_1 a0_2 a0_3 a0_4 a0_5 a0_6 a0_7 a0_8 a0_9 a0_10 = some r) :
  Calls Try.prog 53 #[.agg #[.string a0_0, .int .i64 a0_1, .int .i64 a0_2, .int .i64 a0_3, .int .i64 a0_4, .int .i64 a0_5, .int .i64 a0_6, .int .i64 a0_7, .int .i64 a0_8, .int .i64 a0_9, .string a0_10]] w fun e w' => e = .returned (.int .i64 r) ∧ Below w.heap.size w w' := by
 have hu96 := Try.underlying96
 have HB := aM (Below.refl w.heap.size w)
 have H : (some (mn a0_2 9999)) = some r := h
 clear h
 obtain ⟨ji2, hji2⟩ : ∃ j_ : Int, (mn a0_2 9999) = j_ := ⟨_, rfl⟩
 replace H : (some ji2) = some r := by first | (rw [hji2] at H; exact H) | (simp only [hji2] at H ⊢; exact H)
 (try (have hji2h : ji2 ≤ 9999 := by (rw [← hji2]; unfold mn; (repeat' split) <;> omega)))
 (try (have hji2g : ji2 ≤ 64 := by omega))
 have hji2_ : (if 9999 < a0_2 then 9999 else a0_2) = ji2 := hji2
 obtain rfl := Option.some.inj H
 go_enter Try.func53, Try.ntmps53
 go_wp2_with (first | ((with_reducible refine gate_dst (N := 1) rfl ?_); refine box_event ?hg (N := 1) ?hd (cs := #[.string a0_0, .int .i64 a0_1, .int .i64 a0_2, .int .i64 a0_3, .int .i64 a0_4, .int .i64 a0_5, .int .i64 a0_6, .int .i64 a0_7, .int .i64 a0_8, .int .i64 a0_9, .string a0_10]) (t := 96) ?hr ?_; (case hd => rfl); (case hg => rfl); (case hr => first | (go_simp; done) | (go_simp; rfl)); intro gb110 hg w3 hbox hb; have n0_ := aM (below_step (by repeat (first | (with_reducible first | exact HB.out | apply lA | apply lN | apply lD) | exact HB.out)) hb); have n1_ := aM (hbox); have n2_ := aM ((by rw [hg]; exact (below_size (by repeat (first | (with_reducible first | exact HB.out | apply lA | apply lN | apply lD) | exact HB.out))) : w.heap.size ≤ gb110)); have n3_ := aM ((by rw [hg]; exact (below_size (by repeat (first | (with_reducible first | exact HB.out | apply lA | apply lN | apply lD) | exact HB.out))) : w.heap.size ≤ gb110)); clear HB; have HB := n0_; have BK110 := n1_; have GW110 := n2_; have GE110 := n3_; clear n0_ n1_ n2_ n3_; clear hb hbox hg; obtain ⟨hcz4_0, hcz4_1, hcz4_2, hcz4_3, hcz4_4, hcz4_5, hcz4_6, hcz4_7, hcz4_8, hcz4_9, hcz4_10⟩ := blkC11 BK110.out; obtain ⟨hfz4_0, hfz4_1, hfz4_2, hfz4_3, hfz4_4, hfz4_5, hfz4_6, hfz4_7, hfz4_8, hfz4_9, hfz4_10⟩ := blkF11 BK110.out))
 go_ret
 exact ⟨by first | rfl | (simp [errW_none, errW_some] <;> rfl) | (simp only [← hji2]; first | rfl | (simp [errW_none, errW_some] <;> rfl)) | (simp [*, errW_none, errW_some] <;> rfl), by repeat (first | (with_reducible first | exact HB.out | apply lA | apply lN | apply lD | refine lS ?_ GE110.out) | exact HB.out)⟩
def dayform_right.j0 : Nat → Bool → Int → Int → Int → Option (Bool)
 | 0, _, _, _, _ => none
 | k + 1, x3, x112000, x112001, x112002 => if x3 = true then (some false) else (if x112000 = 1 then (some (x112001 == 0)) else (if x112001 ≥ 1 then (if x112001 ≤ 31 then (if x112000 > 0 then (some true) else (some (x112002 == 0))) else (some false)) else (some false)))
def dayform_right.f (k : Nat) (a0_0 : Int) (a0_1 : Int) (a0_2 : Int) : Option (Bool) := if a0_0 < 0 then (dayform_right.j0 k true a0_0 a0_1 a0_2) else (if a0_0 > 3 then (dayform_right.j0 k true a0_0 a0_1 a0_2) else (if a0_2 < 0 then (dayform_right.j0 k true a0_0 a0_1 a0_2) else (dayform_right.j0 k (decide (a0_2 > 6)) a0_0 a0_1 a0_2)))
theorem dayform_right.mono_l : ∀ k, (∀ y0 y1 y2 y3, LeO (dayform_right.j0 k y0 y1 y2 y3) (dayform_right.j0 (k + 1) y0 y1 y2 y3))
 | 0 => fun _ _ _ _ r h => by simp [dayform_right.j0] at h
 | k + 1 => by
  have ih0 := dayform_right.mono_l k
  ·intro y0 y1 y2 y3
   unfold dayform_right.j0
   repeat' first
   | (with_reducible exact ih0 _ _ _ _)
   | (with_reducible exact LeO.refl _)
   | (with_reducible exact LeO.none _)
   | (with_reducible refine LeO.ite ?_ ?_)
   | (with_reducible refine LeO.bind ?_ (fun _ => ?_))
   | exact ih0 _ _ _ _
   | exact LeO.none _
   | refine LeO.ite ?_ ?_
   | refine LeO.bind ?_ (fun _ => ?_)
theorem dayform_right.mono : ∀ a0 a1 a2 k, LeO (dayform_right.f k a0 a1 a2) (dayform_right.f (k + 1) a0 a1 a2) := by
 intro a0 a1 a2 k
 have ih0 := dayform_right.mono_l k
 unfold dayform_right.f
 repeat' first
   | (with_reducible exact ih0 _ _ _ _)
   | (with_reducible exact LeO.refl _)
   | (with_reducible exact LeO.none _)
   | (with_reducible refine LeO.ite ?_ ?_)
   | (with_reducible refine LeO.bind ?_ (fun _ => ?_))
   | exact ih0 _ _ _ _
   | exact LeO.none _
   | refine LeO.ite ?_ ?_
   | refine LeO.bind ?_ (fun _ => ?_)
set_option maxHeartbeats 8000000 in
set_option maxRecDepth 100000 in
theorem dayform_right.calls (k : Nat) (a0_0 : Int) (a0_1 : Int) (a0_2 : Int) (r : Bool) (w : World) (h : dayform_right.f k a0_0 a0_1 a0_2 = some r) :
  Calls Try.prog 47 #[.agg #[.int .i64 a0_0, .int .i64 a0_1, .int .i64 a0_2]] w fun e w' => e = .returned (.bool r) ∧ Below w.heap.size w w' := by
 have hu42 := Try.underlying42
 have HB := aM (Below.refl w.heap.size w)
 have H : (if a0_0 < 0 then (dayform_right.j0 k true a0_0 a0_1 a0_2) else (if a0_0 > 3 then (dayform_right.j0 k true a0_0 a0_1 a0_2) else (if a0_2 < 0 then (dayform_right.j0 k true a0_0 a0_1 a0_2) else (dayform_right.j0 k (decide (a0_2 > 6)) a0_0 a0_1 a0_2)))) = some r := h
 clear h
 have HC2 := aM H
 clear H
 go_enter Try.func47, Try.ntmps47
 go_upto_region 1 with (first | ((with_reducible refine gate_dst (N := 1) rfl ?_); refine box_event ?hg (N := 1) ?hd (cs := #[.int .i64 a0_0, .int .i64 a0_1, .int .i64 a0_2]) (t := 42) ?hr ?_; (case hd => rfl); (case hg => rfl); (case hr => first | (go_simp; done) | (go_simp; rfl)); intro gb111 hg w3 hbox hb; have n0_ := aM (below_step (by repeat (first | (with_reducible first | exact HB.out | apply lA | apply lN | apply lD) | exact HB.out)) hb); have n1_ := aM (hbox); have n2_ := aM ((by rw [hg]; exact (below_size (by repeat (first | (with_reducible first | exact HB.out | apply lA | apply lN | apply lD) | exact HB.out))) : w.heap.size ≤ gb111)); have n3_ := aM ((by rw [hg]; exact (below_size (by repeat (first | (with_reducible first | exact HB.out | apply lA | apply lN | apply lD) | exact HB.out))) : w.heap.size ≤ gb111)); clear HB; have HB := n0_; have BK111 := n1_; have GW111 := n2_; have GE111 := n3_; clear n0_ n1_ n2_ n3_; clear hb hbox hg))
 (try simp only [Act.put, sA, sZ, sS])
 go_cut [3] (fun v3 wc => ∃ (kq : Nat) (x3_1 : Bool), v3 = .bool x3_1 ∧ Aside0 (dayform_right.j0 kq x3_1 a0_0 a0_1 a0_2 = some r) ∧ Aside0 (kq ≤ k) ∧ Aside0 (wc.heap[gb111]? = some (.cells #[.int .i64 a0_0, .int .i64 a0_1, .int .i64 a0_2] 42 (0, 0))) ∧ Aside0 (Below w.heap.size w wc))
 case first =>
  have H := HC2.out
  clear HC2
  by_cases c4 : a0_0 < 0
  ·rw [if_pos c4] at H
   have c4b0 : decide (a0_0 < 0) = true := decide_eq_true c4
   clear c4
   (first | rw [c4b0] | (simp only [i64_w, i32_w]; rw [c4b0]) | skip)
   have H' := aM H
   clear H
   obtain ⟨hcz5_0, hcz5_1, hcz5_2⟩ := blkC3 BK111.out
   obtain ⟨hfz5_0, hfz5_1, hfz5_2⟩ := blkF3 BK111.out
   go_wp2
   go_meet
   case rel => exact ⟨_, (true), (by first | rfl | (simp; done) | (simp [*]; done)), H', ⟨by first | omega | exact Nat.le_refl _⟩, ⟨by (with_reducible repeat first | apply bN | apply bD | apply bA); exact BK111.out⟩, ⟨by repeat (first | (with_reducible first | exact HB.out | apply lA | apply lN | apply lD | refine lS ?_ GE111.out) | exact HB.out)⟩⟩
  ·rw [if_neg c4] at H
   have c4b0 : decide (a0_0 < 0) = false := decide_eq_false c4
   clear c4
   (first | rw [c4b0] | (simp only [i64_w, i32_w]; rw [c4b0]) | skip)
   by_cases c6 : a0_0 > 3
   ·rw [if_pos c6] at H
    have c6b0 : decide (3 < a0_0) = true := decide_eq_true c6
    clear c6
    have H' := aM H
    clear H
    obtain ⟨hcz7_0, hcz7_1, hcz7_2⟩ := blkC3 BK111.out
    obtain ⟨hfz7_0, hfz7_1, hfz7_2⟩ := blkF3 BK111.out
    go_wp2
    go_meet
    case rel => exact ⟨_, (true), (by first | rfl | (simp; done) | (simp [*]; done)), H', ⟨by first | omega | exact Nat.le_refl _⟩, ⟨by (with_reducible repeat first | apply bN | apply bD | apply bA); exact BK111.out⟩, ⟨by repeat (first | (with_reducible first | exact HB.out | apply lA | apply lN | apply lD | refine lS ?_ GE111.out) | exact HB.out)⟩⟩
   ·rw [if_neg c6] at H
    have c6b0 : decide (3 < a0_0) = false := decide_eq_false c6
    clear c6
    by_cases c8 : a0_2 < 0
    ·rw [if_pos c8] at H
     have c8b0 : decide (a0_2 < 0) = true := decide_eq_true c8
     clear c8
     have H' := aM H
     clear H
     obtain ⟨hcz9_0, hcz9_1, hcz9_2⟩ := blkC3 BK111.out
     obtain ⟨hfz9_0, hfz9_1, hfz9_2⟩ := blkF3 BK111.out
     go_wp2
     go_meet
     case rel => exact ⟨_, (true), (by first | rfl | (simp; done) | (simp [*]; done)), H', ⟨by first | omega | exact Nat.le_refl _⟩, ⟨by (with_reducible repeat first | apply bN | apply bD | apply bA); exact BK111.out⟩, ⟨by repeat (first | (with_reducible first | exact HB.out | apply lA | apply lN | apply lD | refine lS ?_ GE111.out) | exact HB.out)⟩⟩
    ·rw [if_neg c8] at H
     have c8b0 : decide (a0_2 < 0) = false := decide_eq_false c8
     clear c8
     have H' := aM H
     clear H
     obtain ⟨hcz10_0, hcz10_1, hcz10_2⟩ := blkC3 BK111.out
     obtain ⟨hfz10_0, hfz10_1, hfz10_2⟩ := blkF3 BK111.out
     go_wp2
     go_meet
     case rel => exact ⟨_, (decide (a0_2 > 6)), (by first | rfl | (simp; done) | (simp [*]; done)), H', ⟨by first | omega | exact Nat.le_refl _⟩, ⟨by (with_reducible repeat first | apply bN | apply bD | apply bA); exact BK111.out⟩, ⟨by repeat (first | (with_reducible first | exact HB.out | apply lA | apply lN | apply lD | refine lS ?_ GE111.out) | exact HB.out)⟩⟩
 case rest =>
  clear HC2
  try clear p2; try clear c4; try clear c4b0; try clear c6; try clear c6b0; try clear c8; try clear c8b0; try clear hcz10_0; try clear hcz10_1; try clear hcz10_2; try clear hcz5_0; try clear hcz5_1; try clear hcz5_2; try clear hcz7_0; try clear hcz7_1; try clear hcz7_2; try clear hcz9_0; try clear hcz9_1; try clear hcz9_2; try clear hfz10_0; try clear hfz10_1; try clear hfz10_2; try clear hfz5_0; try clear hfz5_1; try clear hfz5_2; try clear hfz7_0; try clear hfz7_1; try clear hfz7_2; try clear hfz9_0; try clear hfz9_1; try clear hfz9_2
  obtain ⟨kq, x3_1, rfl, HA, HJ1, BK111, HB⟩ := hcut
  cases kq with
  | zero => exact absurd HA.out (by simp [dayform_right.j0])
  | succ kj1 =>
   have H := HA.out
   clear HA
   simp only [dayform_right.j0] at H
   by_cases c11 : x3_1 = true
   ·subst c11
    have H1 : (some false) = some r := by rw [if_pos rfl] at H; exact H
    clear H
    have H := H1
    clear H1
    obtain rfl := Option.some.inj H
    go_wp2
    go_ret
    exact ⟨by first | rfl | (simp [errW_none, errW_some] <;> rfl) | (simp [*, errW_none, errW_some] <;> rfl), by repeat (first | (with_reducible first | exact HB.out | apply lA | apply lN | apply lD | refine lS ?_ GE111.out) | exact HB.out)⟩
   ·replace c11 := Bool.eq_false_iff.mpr c11
    subst c11
    have H1 : (if a0_0 = 1 then (some (a0_1 == 0)) else (if a0_1 ≥ 1 then (if a0_1 ≤ 31 then (if a0_0 > 0 then (some true) else (some (a0_2 == 0))) else (some false)) else (some false))) = some r := by rw [if_neg (show ¬ (false = true) by decide)] at H; exact H
    clear H
    have H := H1
    clear H1
    by_cases c12 : a0_0 = 1
    ·rw [if_pos c12] at H
     have c12b0 : (a0_0 == 1) = true := beq_iff_eq.mpr c12
     have c12b1 : (a0_0 != 1) = false := bne_eq_false_iff_eq.mpr c12
     clear c12
     obtain rfl := Option.some.inj H
     obtain ⟨hcz13_0, hcz13_1, hcz13_2⟩ := blkC3 BK111.out
     obtain ⟨hfz13_0, hfz13_1, hfz13_2⟩ := blkF3 BK111.out
     go_wp2
     go_ret
     exact ⟨by first | rfl | (simp [errW_none, errW_some] <;> rfl) | (simp [*, errW_none, errW_some] <;> rfl), by repeat (first | (with_reducible first | exact HB.out | apply lA | apply lN | apply lD | refine lS ?_ GE111.out) | exact HB.out)⟩
    ·rw [if_neg c12] at H
     have c12b0 : (a0_0 == 1) = false := beq_eq_false_iff_ne.mpr c12
     have c12b1 : (a0_0 != 1) = true := bne_iff_ne.mpr c12
     by_cases c14 : a0_1 ≥ 1
     ·rw [if_pos c14] at H
      have c14b0 : decide (1 ≤ a0_1) = true := decide_eq_true c14
      clear c14
      by_cases c15 : a0_1 ≤ 31
      ·rw [if_pos c15] at H
       have c15b0 : decide (a0_1 ≤ 31) = true := decide_eq_true c15
       clear c15
       by_cases c16 : a0_0 > 0
       ·rw [if_pos c16] at H
        have c16b0 : decide (0 < a0_0) = true := decide_eq_true c16
        clear c16
        obtain rfl := Option.some.inj H
        obtain ⟨hcz17_0, hcz17_1, hcz17_2⟩ := blkC3 BK111.out
        obtain ⟨hfz17_0, hfz17_1, hfz17_2⟩ := blkF3 BK111.out
        go_wp2
        go_ret
        exact ⟨by first | rfl | (simp [errW_none, errW_some] <;> rfl) | (simp [*, errW_none, errW_some] <;> rfl), by repeat (first | (with_reducible first | exact HB.out | apply lA | apply lN | apply lD | refine lS ?_ GE111.out) | exact HB.out)⟩
       ·rw [if_neg c16] at H
        have c16b0 : decide (0 < a0_0) = false := decide_eq_false c16
        clear c16
        obtain rfl := Option.some.inj H
        obtain ⟨hcz18_0, hcz18_1, hcz18_2⟩ := blkC3 BK111.out
        obtain ⟨hfz18_0, hfz18_1, hfz18_2⟩ := blkF3 BK111.out
        go_wp2
        go_ret
        exact ⟨by first | rfl | (simp [errW_none, errW_some] <;> rfl) | (simp [*, errW_none, errW_some] <;> rfl), by repeat (first | (with_reducible first | exact HB.out | apply lA | apply lN | apply lD | refine lS ?_ GE111.out) | exact HB.out)⟩
      ·rw [if_neg c15] at H
       have c15b0 : decide (a0_1 ≤ 31) = false := decide_eq_false c15
       clear c15
       obtain rfl := Option.some.inj H
       obtain ⟨hcz19_0, hcz19_1, hcz19_2⟩ := blkC3 BK111.out
       obtain ⟨hfz19_0, hfz19_1, hfz19_2⟩ := blkF3 BK111.out
       go_wp2
       go_ret
       exact ⟨by first | rfl | (simp [errW_none, errW_some] <;> rfl) | (simp [*, errW_none, errW_some] <;> rfl), by repeat (first | (with_reducible first | exact HB.out | apply lA | apply lN | apply lD | refine lS ?_ GE111.out) | exact HB.out)⟩
     ·rw [if_neg c14] at H
      have c14b0 : decide (1 ≤ a0_1) = false := decide_eq_false c14
      clear c14
      obtain rfl := Option.some.inj H
      obtain ⟨hcz20_0, hcz20_1, hcz20_2⟩ := blkC3 BK111.out
      obtain ⟨hfz20_0, hfz20_1, hfz20_2⟩ := blkF3 BK111.out
      go_wp2
      go_ret
      exact ⟨by first | rfl | (simp [errW_none, errW_some] <;> rfl) | (simp [*, errW_none, errW_some] <;> rfl), by repeat (first | (with_reducible first | exact HB.out | apply lA | apply lN | apply lD | refine lS ?_ GE111.out) | exact HB.out)⟩
def civil_Leap.f (a0 : Int) : Option (Bool) := if (Go.bits .and .i64 a0 3) = 0 then (if (Int.tmod a0 25) = 0 then (some ((Go.bits .and .i64 a0 15) == 0)) else (some true)) else (some false)
set_option maxHeartbeats 8000000 in
set_option maxRecDepth 100000 in
theorem civil_Leap.calls (a0 : Int) (r : Bool) (w : World) (h : civil_Leap.f a0 = some r) :
  Calls Try.prog 66 #[.int .i64 a0] w fun e w' => e = .returned (.bool r) ∧ Drawn0 w w' := by
 have H : (if (Go.bits .and .i64 a0 3) = 0 then (if (Int.tmod a0 25) = 0 then (some ((Go.bits .and .i64 a0 15) == 0)) else (some true)) else (some false)) = some r := h
 clear h
 by_cases c2 : (Go.bits .and .i64 a0 3) = 0
 ·rw [if_pos c2] at H
  have c2b0 : ((Go.bits .and .i64 a0 3) == 0) = true := beq_iff_eq.mpr c2
  have c2b1 : ((Go.bits .and .i64 a0 3) != 0) = false := bne_eq_false_iff_eq.mpr c2
  clear c2
  by_cases c3 : (Int.tmod a0 25) = 0
  ·rw [if_pos c3] at H
   have c3b0 : ((Int.tmod a0 25) == 0) = true := beq_iff_eq.mpr c3
   have c3b1 : ((Int.tmod a0 25) != 0) = false := bne_eq_false_iff_eq.mpr c3
   clear c3
   obtain rfl := Option.some.inj H
   go_enter Try.func66, Try.ntmps66
   go_wp2
   go_ret
   exact ⟨by first | rfl | (simp; done) | (simp [*]; done), by repeat (first | exact Drawn0.refl _ | apply Drawn0.step)⟩
  ·rw [if_neg c3] at H
   have c3b0 : ((Int.tmod a0 25) == 0) = false := beq_eq_false_iff_ne.mpr c3
   have c3b1 : ((Int.tmod a0 25) != 0) = true := bne_iff_ne.mpr c3
   obtain rfl := Option.some.inj H
   go_enter Try.func66, Try.ntmps66
   go_wp2
   go_ret
   exact ⟨by first | rfl | (simp; done) | (simp [*]; done), by repeat (first | exact Drawn0.refl _ | apply Drawn0.step)⟩
 ·rw [if_neg c2] at H
  have c2b0 : ((Go.bits .and .i64 a0 3) == 0) = false := beq_eq_false_iff_ne.mpr c2
  have c2b1 : ((Go.bits .and .i64 a0 3) != 0) = true := bne_iff_ne.mpr c2
  obtain rfl := Option.some.inj H
  go_enter Try.func66, Try.ntmps66
  go_wp2
  go_ret
  exact ⟨by first | rfl | (simp; done) | (simp [*]; done), by repeat (first | exact Drawn0.refl _ | apply Drawn0.step)⟩
end Go.Proofs.Ytadamegddcadcaa.PDen
