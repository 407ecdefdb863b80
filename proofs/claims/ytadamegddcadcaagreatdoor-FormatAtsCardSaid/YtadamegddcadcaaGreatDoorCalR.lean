import Derived.Test.YtadamegddcadcaaGreatDoorCal
import Derived.Test.YtadamegddcadcaaGreatDoorFnE
set_option linter.unusedVariables false
namespace Go.Proofs.YtadamegddcadcaaGreatDoorPi
open Go
set_option maxRecDepth 100000
set_option maxHeartbeats 1000000
/-! the document's calendar -/
theorem rLeap (n : Nat) (y : Int) : A2Leap n (y, ()) = some (leapB y, ()) := by
  unfold A2Leap A2Leap_px
  simp only [cb_eq, cb_ne, tmod_zero]
  have h400 : (Int.tmod y 400 == 0) = decide (y % 400 = 0) := by
    rw [Bool.eq_iff_iff, beq_iff_eq, decide_eq_true_iff]; exact tmod_zero y 400
  rw [h400]
  unfold leapB
  by_cases h4 : y % 4 = 0
  · rw [if_pos h4]
    by_cases h100 : y % 100 = 0
    · rw [if_pos h100]
      congr 2
      rw [Bool.eq_iff_iff]; simp; omega
    · rw [if_neg h100]
      congr 2
      symm; rw [decide_eq_true_iff]; omega
  · rw [if_neg h4]
    congr 2
    rw [Bool.eq_iff_iff]; simp; omega
theorem rLong (n : Nat) (y m : Int) : A2Long n (y, (m, ())) = some (longN y m, ()) := by
  unfold A2Long A2Long_px A2Long_s1 A2Long_p1 A2Long_s2 A2Long_p2 A2Long_s0 A2Long_p0
  simp only [rLeap, Option.bind_some, cb_eq]
  unfold longN
  by_cases h : 1 ≤ m ∧ m ≤ 12
  · have : m = 1 ∨ m = 2 ∨ m = 3 ∨ m = 4 ∨ m = 5 ∨ m = 6 ∨ m = 7 ∨ m = 8 ∨ m = 9 ∨ m = 10 ∨ m = 11 ∨ m = 12 := by omega
    cases leapB y <;> rcases this with h | h | h | h | h | h | h | h | h | h | h | h <;> subst h <;> rfl
  · have e : ∀ k : Int, 1 ≤ k → k ≤ 12 → ¬ m = k := fun k h1 h2 => by omega
    rw [if_neg (e 4 (by omega) (by omega)), if_neg (e 6 (by omega) (by omega)), if_neg (e 9 (by omega) (by omega)), if_neg (e 11 (by omega) (by omega)), if_neg (e 2 (by omega) (by omega)), if_neg (e 1 (by omega) (by omega)), if_neg (e 3 (by omega) (by omega)), if_neg (e 5 (by omega) (by omega)), if_neg (e 7 (by omega) (by omega)), if_neg (e 8 (by omega) (by omega)), if_neg (e 10 (by omega) (by omega)), if_neg (e 12 (by omega) (by omega)), if_pos (by omega)]
theorem rRight (n : Nat) (y m d : Int) : A2Right n (y, (m, (d, ()))) = some (rightB y m d, ()) := by
  unfold A2Right A2Right_px
  simp only [rLong, Option.bind_some, cb_dec, ge_iff_le]
  unfold rightB
  by_cases h1 : -9999 ≤ y
  · by_cases h2 : y ≤ 9999
    · by_cases h3 : 1 ≤ m
      · by_cases h4 : m ≤ 12
        · by_cases h5 : 1 ≤ d
          · simp only [h1, h2, h3, h4, h5, if_true, true_and]
          · simp only [h1, h2, h3, h4, h5, if_true, if_false, true_and, false_and, decide_false]
        · rw [if_pos h1, if_pos h2, if_pos h3, if_neg h4, longN_out (by omega)]
          congr 2; symm; rw [decide_eq_false_iff_not]; omega
      · rw [if_pos h1, if_pos h2, if_neg h3, longN_out (by omega)]
        congr 2; symm; rw [decide_eq_false_iff_not]; omega
    · simp only [h1, h2, if_true, if_false, true_and, false_and, decide_false]
  · simp only [h1, if_false, false_and, decide_false]

theorem ydayN_bd {y : Int} (h0 : -20000 ≤ y) (h1 : y ≤ 20000) : -10000000 ≤ ydayN y ∧ ydayN y ≤ 10000000 := by unfold ydayN; omega
theorem rYear3 {n : Nat} (hn : 1000000 ≤ n) {y a : Int} (h0 : -11000 ≤ y) (h1 : y ≤ 11000) (h2 : a ≤ y) (h3 : -20000 ≤ a) : A2year_s3 n (y, ydayN a, a) = some (ydayN y, ()) := by
  unfold A2year_s3
  refine rounds_eq (G := fun _ => some (ydayN y, ())) (fun z => z.1 = y ∧ z.2.1 = ydayN z.2.2 ∧ z.2.2 ≤ y ∧ -20000 ≤ z.2.2) (fun z => (y - z.2.2).toNat) ?_ n _ ⟨rfl, rfl, h2, h3⟩ (by show (y - a).toNat < n; omega)
  rintro rec ⟨y', s, a⟩ ⟨rfl, hs, ha, ha2⟩ ih
  simp only at hs ha ha2
  subst hs
  simp only [A2year_s6, A2year_p6, A2year_s7, A2year_p7, A2year_s5, A2year_p5, rLeap, Option.bind_some, cb_dec]
  have hb := ydayN_bd (y := a) (by omega) (by omega)
  by_cases h : a < y'
  · rw [if_pos h, w64_id (x := ydayN a + 365) (by omega) (by omega), w64_id (x := ydayN a + 365 + 1) (by omega) (by omega), w64_id (x := a + 1) (by omega) (by omega)]
    have hs := ydayN_succ a
    cases hl : leapB a
    · rw [cond_false]
      rw [hl] at hs
      exact ih (y', ydayN a + 365, a + 1) ⟨rfl, by simp at hs; rw [hs], by show a + 1 ≤ y'; omega, by show -20000 ≤ a + 1; omega⟩ (by show (y' - (a + 1)).toNat < (y' - a).toNat; omega)
    · rw [cond_true]
      rw [hl] at hs
      exact ih (y', ydayN a + 365 + 1, a + 1) ⟨rfl, by simp at hs; rw [hs], by show a + 1 ≤ y'; omega, by show -20000 ≤ a + 1; omega⟩ (by show (y' - (a + 1)).toNat < (y' - a).toNat; omega)
  · rw [if_neg h]
    obtain rfl : a = y' := by omega
    rfl
theorem rYear1 {n : Nat} (hn : 1000000 ≤ n) {y a : Int} (h0 : -11000 ≤ y) (h1 : y ≤ 11000) (h2 : a ≤ 20000) (h3 : -15000 ≤ a) : A2year_s1 n (y, ydayN a, a) = some (ydayN y, ()) := by
  unfold A2year_s1
  refine rounds_eq (G := fun _ => some (ydayN y, ())) (fun z => z.1 = y ∧ z.2.1 = ydayN z.2.2 ∧ z.2.2 ≤ 20000 ∧ -15000 ≤ z.2.2) (fun z => (z.2.2 - y).toNat) ?_ n _ ⟨rfl, rfl, h2, h3⟩ (by show (a - y).toNat < n; omega)
  rintro rec ⟨y', s, a⟩ ⟨rfl, hs, ha, ha2⟩ ih
  simp only at hs ha ha2
  subst hs
  simp only [A2year_s4, A2year_p4, cb_dec, gt_iff_lt]
  have hb := ydayN_bd (y := a) (by omega) (by omega)
  by_cases h : y' < a
  · rw [if_pos h, w64_id (x := ydayN a - 146097) (by omega) (by omega), w64_id (x := a - 400) (by omega) (by omega)]
    have hs := ydayN_400 (a - 400)
    rw [show a - 400 + 400 = a by omega] at hs
    exact ih (y', ydayN a - 146097, a - 400) ⟨rfl, by show ydayN a - 146097 = ydayN (a - 400); omega, by show a - 400 ≤ 20000; omega, by show -15000 ≤ a - 400; omega⟩ (by show (a - 400 - y').toNat < (a - y').toNat; omega)
  · rw [if_neg h]
    exact rYear3 hn h0 h1 (by omega) (by omega)
theorem rYear {n : Nat} (hn : 1000000 ≤ n) {y : Int} (h0 : -11000 ≤ y) (h1 : y ≤ 11000) : A2year n (y, ()) = some (ydayN y, ()) := by
  show A2year_s0 n (y, (0 : Int), (1970 : Int)) = _
  have e : (0 : Int) = ydayN 1970 := by decide
  unfold A2year_s0
  refine rounds_eq (G := fun _ => some (ydayN y, ())) (fun z => z.1 = y ∧ z.2.1 = ydayN z.2.2 ∧ z.2.2 ≤ 20000 ∧ -15000 ≤ z.2.2) (fun z => (y - z.2.2).toNat) ?_ n _ ⟨rfl, e, by show (1970 : Int) ≤ 20000; omega, by show (-15000 : Int) ≤ 1970; omega⟩ (by show (y - 1970).toNat < n; omega)
  rintro rec ⟨y', s, a⟩ ⟨rfl, hs, ha, ha2⟩ ih
  simp only at hs ha ha2
  subst hs
  simp only [A2year_s2, A2year_p2, cb_dec]
  have hb := ydayN_bd (y := a) (by omega) (by omega)
  rw [w64_id (x := ydayN a + 146097) (by omega) (by omega), w64_id (x := a + 400) (by omega) (by omega)]
  by_cases h : a + 400 ≤ y'
  · rw [if_pos h]
    exact ih (y', ydayN a + 146097, a + 400) ⟨rfl, (ydayN_400 a).symm, by show a + 400 ≤ 20000; omega, by show -15000 ≤ a + 400; omega⟩ (by show (y' - (a + 400)).toNat < (y' - a).toNat; omega)
  · rw [if_neg h]
    exact rYear1 hn h0 h1 ha ha2
theorem cumN_hi2 {y m : Int} (h : m ≤ 13) : 0 ≤ cumN y m ∧ cumN y m ≤ 400 := by
  have h0 := cumN_lo y m
  refine ⟨h0, ?_⟩
  unfold cumN
  split
  · omega
  · split
    · omega
    · split <;> omega
theorem rDays {n : Nat} (hn : 1000000 ≤ n) (y m d : Int) : A2Days n (y, (m, (d, ()))) = some (if rightB y m d = true then (dayN y m d, ((0 : Int), ())) else ((0 : Int), ((6 : Int), ()))) := by
  unfold A2Days A2Days_px
  simp only [rRight, Option.bind_some, cb_not]
  cases h : rightB y m d
  · rfl
  have hr := rightB_iff.1 h
  have hm := rightB_month h
  have hl := longN_hi y m
  rw [cond_true, rYear hn (by omega) (by omega), Option.bind_some, if_pos rfl]
  unfold A2Days_s1
  refine rounds_eq (G := fun _ => some (dayN y m d, ((0 : Int), ()))) (fun z => ∃ i : Int, z = (y, m, d, ydayN y + cumN y i, i) ∧ 1 ≤ i ∧ i ≤ m) (fun z => (m - z.2.2.2.2).toNat) ?_ n _ ⟨1, by simp [cumN], by omega, by omega⟩ (by show (m - 1).toNat < n; omega)
  rintro rec z ⟨i, rfl, hi1, hi2⟩ ih
  simp only [A2Days_s2, A2Days_p2, A2Days_s0, A2Days_p0, rLong, Option.bind_some, cb_dec]
  have hb := ydayN_bd (y := y) (by omega) (by omega)
  have hc := cumN_hi2 (y := y) (m := i) (by omega)
  by_cases hlt : i < m
  · have hs := cumN_succ (y := y) hi1 (by omega)
    rw [if_neg (by omega)] at hs
    have hl2 := longN_hi y i
    have hl3 := longN_lo y i
    rw [if_pos hlt, w64_id (x := i + 1) (by omega) (by omega), w64_id (x := ydayN y + cumN y i + longN y i) (by omega) (by omega)]
    exact ih _ ⟨i + 1, by rw [hs, Int.add_assoc], by omega, by omega⟩ (by show (m - (i + 1)).toNat < (m - i).toNat; omega)
  · rw [if_neg hlt]
    obtain rfl : i = m := by omega
    rw [w64_id (x := ydayN y + cumN y i + d) (by omega) (by omega), w64_id (by omega) (by omega)]
    rfl
theorem rWeek (n : Nat) (t : Int) : A2Week n (t, ()) = some ((t + 4) % 7, ()) := by
  unfold A2Week A2Week_px
  obtain ⟨e, h⟩ := tdm t 7 (by omega)
  have hm := Int.mul_tdiv_add_tmod t 7
  have hb : -7 < Int.tmod t 7 ∧ Int.tmod t 7 < 7 := by
    by_cases q : Int.tmod t 7 < 0
    · rw [if_pos q] at e; omega
    · rw [if_neg q] at e; omega
  simp only []
  rw [w64_id (by omega) (by omega), Int.tmod_eq_emod_of_nonneg (by omega)]
  congr 2
  split at e <;> omega
theorem rClock (n : Nat) {t : Int} (h0 : -9223372036854775808 ≤ t) (h1 : t ≤ 9223372036854775807) : A2Clock n (t, ()) = some (t / 86400, (t % 86400, ())) := by
  unfold A2Clock A2Clock_px A2Clock_s0 A2Clock_p0
  obtain ⟨e, _⟩ := tdm t 86400 (by omega)
  have hm := Int.mul_tdiv_add_tmod t 86400
  simp only [cb_dec]
  rw [e] at hm ⊢
  by_cases h : Int.tmod t 86400 < 0
  · rw [if_pos h] at hm
    rw [if_pos h, if_pos h, w64_id (x := t / 86400 + 1) (by omega) (by omega), show t / 86400 + 1 - 1 = t / 86400 by omega, w64_id (x := t / 86400) (by omega) (by omega), w64_id (by omega) (by omega)]
    congr 2; congr 1; omega
  · rw [if_neg h] at hm
    rw [if_neg h, if_neg h, w64_id (x := t / 86400) (by omega) (by omega)]
    congr 2; congr 1; omega
theorem rDate_no {n : Nat} (hn : 1000000 ≤ n) {t : Int} (h : t < ydayN (-9999) ∨ ydayN 10000 ≤ t) : A2Date n (t, ()) = some ((0 : Int), ((0 : Int), ((0 : Int), ((2 : Int), ())))) := by
  unfold A2Date A2Date_px
  rw [rYear hn (by omega) (by omega), Option.bind_some]
  simp only [cb_dec, ge_iff_le]
  by_cases h1 : t < ydayN (-9999)
  · rw [if_pos h1]
  · rw [if_neg h1, rYear hn (by omega) (by omega), Option.bind_some, if_pos (by show ydayN 10000 ≤ t; omega)]
theorem rDate_ok {n : Nat} (hn : 1000000 ≤ n) {y m d : Int} (h : rightB y m d = true) : A2Date n (dayN y m d, ()) = some (y, (m, (d, ((0 : Int), ())))) := by
  have hb := dayN_bd h
  have hy := dayN_year h
  have hr := rightB_iff.1 h
  have hm := rightB_month h
  have c1 := ydayN_mono (a := -9999) (b := y) (by omega)
  have c2 := ydayN_mono (a := y + 1) (b := 10000) (by omega)
  have by1 := ydayN_bd (y := y) (by omega) (by omega)
  have b0 : ydayN (-9999) = -4371587 := by decide
  unfold A2Date A2Date_px
  rw [rYear hn (by omega) (by omega), Option.bind_some]
  simp only [cb_dec, ge_iff_le]
  rw [if_neg (by omega), rYear hn (y := 10000) (by omega) (by omega), Option.bind_some, if_neg (by show ¬ ydayN 10000 ≤ _; omega), Option.bind_some]
  -- months
  have months : A2Date_s3 n (dayN y m d - ydayN y, y, 1) = some (y, (m, (d, ((0 : Int), ())))) := by
    unfold A2Date_s3
    refine rounds_eq (G := fun _ => some (y, (m, (d, ((0 : Int), ()))))) (fun z => ∃ i : Int, z = (cumN y m + d - 1 - cumN y i, y, i) ∧ 1 ≤ i ∧ i ≤ m) (fun z => (m - z.2.2).toNat) ?_ n _ ⟨1, by unfold dayN; simp [cumN]; omega, by omega, by omega⟩ (by show (m - 1).toNat < n; omega)
    rintro rec z ⟨i, rfl, hi1, hi2⟩ ih
    simp only [A2Date_s5, A2Date_p5, A2Date_s4, A2Date_p4, rLong, Option.bind_some, cb_dec, ge_iff_le]
    have hc := cumN_hi2 (y := y) (m := i) (by omega)
    have hc2 := cumN_hi2 (y := y) (m := m) (by omega)
    have hl2 := longN_hi y i
    have hl3 := longN_lo y i
    have hl4 := longN_hi y m
    by_cases hlt : i < m
    · have hs := cumN_succ (y := y) hi1 (by omega)
      rw [if_neg (by omega)] at hs
      have hmm := cumN_mono (y := y) hi1 hlt hm.2
      rw [if_pos (by omega), w64_id (x := i + 1) (by omega) (by omega), w64_id (x := cumN y m + d - 1 - cumN y i - longN y i) (by omega) (by omega)]
      refine ih _ ⟨i + 1, ?_, by omega, by omega⟩ (by show (m - (i + 1)).toNat < (m - i).toNat; omega)
      rw [hs]; congr 1; omega
    · obtain rfl : i = m := by omega
      rw [if_neg (by omega), w64_id (by omega) (by omega)]
      congr 2; congr 1; congr 1; omega
  have fin : A2Date_s1 n (dayN y m d, y) = some (y, (m, (d, ((0 : Int), ())))) := by
    unfold A2Date_s1 A2Date_p1
    dsimp only
    rw [rYear hn (by omega) (by omega), Option.bind_some, w64_id (by omega) (by omega)]
    exact months
  -- years
  have hq : Int.tdiv (w64 (dayN y m d - ydayN (-9999))) 366 = (dayN y m d - ydayN (-9999)) / 366 := by
    rw [w64_id (by omega) (by omega), Int.tdiv_eq_ediv_of_nonneg (by omega)]
  rw [hq, w64_id (x := (dayN y m d - ydayN (-9999)) / 366) (by omega) (by omega), w64_id (by omega) (by omega)]
  have lo : ∀ k : Nat, ydayN (-9999 + k) ≤ ydayN (-9999) + 366 * k := by
    intro k
    induction k with
    | zero => simp
    | succ k ih =>
      have := ydayN_succ (-9999 + (k : Int))
      rw [show -9999 + ((k + 1 : Nat) : Int) = -9999 + (k : Int) + 1 by omega, this]
      split <;> omega
  have hstart : -9999 + (dayN y m d - ydayN (-9999)) / 366 ≤ y := by
    rcases Int.lt_or_le y (-9999 + (dayN y m d - ydayN (-9999)) / 366) with g | g
    · exfalso
      have h1 := lo ((dayN y m d - ydayN (-9999)) / 366).toNat
      rw [Int.toNat_of_nonneg (by omega)] at h1
      have h2 := ydayN_mono (a := y + 1) (b := -9999 + (dayN y m d - ydayN (-9999)) / 366) (by omega)
      omega
    · exact g
  unfold A2Date_s0
  refine rounds_eq (G := fun _ => some (y, (m, (d, ((0 : Int), ()))))) (fun z => z.1 = dayN y m d ∧ z.2 ≤ y ∧ -9999 ≤ z.2) (fun z => (y - z.2).toNat) ?_ n _ ⟨rfl, hstart, by show -9999 ≤ -9999 + _; omega⟩ (by show (y - (-9999 + _)).toNat < n; omega)
  rintro rec ⟨t, a⟩ ⟨ht, ha, ha2⟩ ih
  simp only at ht ha ha2
  subst ht
  simp only [A2Date_s2, A2Date_p2, cb_dec]
  rw [w64_id (x := a + 1) (by omega) (by omega), rYear hn (by omega) (by omega), Option.bind_some]
  by_cases hlt : a < y
  · have := ydayN_mono (a := a + 1) (b := y) (by omega)
    rw [if_pos (by show ydayN (a + 1) ≤ _; omega)]
    exact ih (dayN y m d, a + 1) ⟨rfl, by show a + 1 ≤ y; omega, by show -9999 ≤ a + 1; omega⟩ (by show (y - (a + 1)).toNat < (y - a).toNat; omega)
  · obtain rfl : a = y := by omega
    rw [if_neg (by show ¬ ydayN (a + 1) ≤ _; omega)]
    exact fin

end Go.Proofs.YtadamegddcadcaaGreatDoorPi
