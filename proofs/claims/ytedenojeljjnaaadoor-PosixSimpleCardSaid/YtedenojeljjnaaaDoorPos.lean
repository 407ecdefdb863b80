import Derived.Test.YtedenojeljjnaaaDoorCal
set_option linter.unusedVariables false
namespace Go.Proofs.YtedenojeljjnaaaDoorPi
open Go Go.Proofs
set_option maxRecDepth 100000
set_option maxHeartbeats 2000000
set_option linter.unusedVariables false

/-! footers: which are right -/
def EdgeR (e : D_noonmarkref17_Edge) : Prop :=
  (-604799 ≤ e.2.2.2.2.1 ∧ e.2.2.2.2.1 ≤ 604799) ∧ if e.1 = true then 1 ≤ e.2.1 ∧ e.2.1 ≤ 365 ∧ e.2.2.1 = 0 ∧ e.2.2.2.1 = 0 else 1 ≤ e.2.2.1 ∧ e.2.2.1 ≤ 12 ∧ 1 ≤ e.2.2.2.1 ∧ e.2.2.2.1 ≤ 5 ∧ 0 ≤ e.2.1 ∧ e.2.1 ≤ 6
theorem within_eq (n : Nat) (x a b : Int) : footer_within n (x, (a, (b, ()))) = some (decide (a ≤ x ∧ x ≤ b), ()) := by
  unfold footer_within footer_within_px
  simp only [cb_dec]
  by_cases h : a ≤ x
  · rw [if_pos h]; simp [h]
  · rw [if_neg h]; simp [h]
theorem er1 (n : Nat) (e : D_noonmarkref17_Edge) : ∃ b, footer_Edge_right n (e, ()) = some (b, ()) ∧ (b = true ↔ EdgeR e) := by
  obtain ⟨fx, d, m, w, s, u⟩ := e
  unfold footer_Edge_right footer_Edge_right_px EdgeR
  simp only [within_eq, Option.bind_some, cb_dec, cb_eq]
  cases fx
  · simp only [cond_false, Bool.false_eq_true, if_false]
    repeat' split
    all_goals (refine ⟨_, rfl, ?_⟩; simp; try omega)
  · simp only [cond_true, if_true]
    repeat' split
    all_goals (refine ⟨_, rfl, ?_⟩; simp; try omega)
theorem er2 (n : Nat) (e : D_noonmarkref17_Edge) : ∃ b, noonmarkref17_EdgeRight n (e, ()) = some (b, ()) ∧ (b = true ↔ EdgeR e) := by
  obtain ⟨fx, d, m, w, s, u⟩ := e
  unfold noonmarkref17_EdgeRight noonmarkref17_EdgeRight_px EdgeR
  simp only [cb_dec, cb_eq]
  cases fx
  · simp only [cond_false, Bool.false_eq_true, if_false]
    repeat' split
    all_goals (refine ⟨_, rfl, ?_⟩; simp; try omega)
  · simp only [cond_true, if_true]
    repeat' split
    all_goals (refine ⟨_, rfl, ?_⟩; simp; try omega)
theorem off_eq (n : Nat) (x : Int) : noonmarkref17_offRight n (x, ()) = some (decide (-86400 ≤ x ∧ x ≤ 86400), ()) := by
  unfold noonmarkref17_offRight noonmarkref17_offRight_px
  simp only [cb_dec]
  by_cases h : -86400 ≤ x
  · rw [if_pos h]; simp [h]
  · rw [if_neg h]; simp [h]
def RightP (x : D_noonmarkref17_Spec) : Prop := (-86400 ≤ x.2.1 ∧ x.2.1 ≤ 86400) ∧ (-86400 ≤ x.2.2.2.1 ∧ x.2.2.2.1 ≤ 86400) ∧ EdgeR x.2.2.2.2.1 ∧ EdgeR x.2.2.2.2.2.1
theorem right_eq {n : Nat} (hn : 1000000 ≤ n) (x : D_noonmarkref17_Spec) (h1 : x.1.size ≤ 50) (h2 : x.2.2.1.size ≤ 50) :
    ∃ b, footer_Right n (x, ()) = some (b, ()) ∧ noonmarkref17_Right n (x, ()) = some (b, ()) ∧ (b = true → (x.2.2.1.toList == (⟨#[]⟩ : ByteArray).toList) = false → RightP x) := by
  obtain ⟨b1, e1, f1⟩ := er1 n x.2.2.2.2.1
  obtain ⟨b2, e2, f2⟩ := er1 n x.2.2.2.2.2.1
  obtain ⟨b3, e3, f3⟩ := er2 n x.2.2.2.2.1
  obtain ⟨b4, e4, f4⟩ := er2 n x.2.2.2.2.2.1
  have h13 : b1 = b3 := Bool.eq_iff_iff.2 (f1.trans f3.symm)
  have h24 : b2 = b4 := Bool.eq_iff_iff.2 (f2.trans f4.symm)
  subst h13 h24
  unfold footer_Right footer_Right_px noonmarkref17_Right noonmarkref17_Right_px RightP
  simp only [plain_val (show x.1.size < n by omega) (by omega), plain_val (show x.2.2.1.size < n by omega) (by omega), rp_val (show x.1.size < n by omega) (by omega), rp_val (show x.2.2.1.size < n by omega) (by omega), within_eq, off_eq, Option.bind_some, e1, e2, e3, e4]
  generalize (eqD T_noonmarkref17_Spec x _) = q
  cases plainB x.1
  · simp only [cond_false, Bool.not_false, cond_true]
    cases (x.2.2.1.toList == (⟨#[]⟩ : ByteArray).toList) <;> exact ⟨false, rfl, rfl, by simp⟩
  · by_cases ho : -86400 ≤ x.2.1 ∧ x.2.1 ≤ 86400
    · simp only [ho, decide_true, and_self, cond_true, Bool.not_true, cond_false]
      cases (x.2.2.1.toList == (⟨#[]⟩ : ByteArray).toList)
      · simp only [cond_false]
        cases plainB x.2.2.1
        · exact ⟨false, rfl, rfl, by simp⟩
        · by_cases hd : -86400 ≤ x.2.2.2.1 ∧ x.2.2.2.1 ≤ 86400
          · simp only [hd, decide_true, and_self, cond_true]
            cases b1
            · exact ⟨false, rfl, rfl, by simp⟩
            · exact ⟨b2, rfl, rfl, fun h _ => ⟨trivial, trivial, f1.1 rfl, f2.1 h⟩⟩
          · simp only [hd, decide_false, cond_true, cond_false]
            exact ⟨false, rfl, rfl, by simp⟩
      · exact ⟨q, rfl, rfl, by simp⟩
    · simp only [ho, decide_false, cond_true, cond_false, Bool.not_false]
      cases (x.2.2.1.toList == (⟨#[]⟩ : ByteArray).toList) <;> exact ⟨false, rfl, rfl, by simp⟩

/-! the number of an edge's day -/
theorem long2001 {y m : Int} : longN 2001 m ≤ longN y m := by
  have : leapB 2001 = false := by decide
  unfold longN
  rw [this]
  split
  · omega
  · split
    · cases leapB y <;> simp
    · omega
theorem cum2001 (y m : Int) (h1 : 1 ≤ m) : cumN y m = cumN 2001 m + (if leapB y = true ∧ 3 ≤ m then 1 else 0) := by
  have : leapB 2001 = false := by decide
  unfold cumN
  rw [this]
  by_cases h : m ≤ 1
  · simp [h]; omega
  · by_cases h2 : m = 2
    · simp [h2]
    · rw [if_neg h, if_neg h2, if_neg h, if_neg h2]
      by_cases hl : leapB y = true
      · simp only [hl, true_and, show (3 : Int) ≤ m by omega, if_true, Bool.false_eq_true, if_false]; omega
      · simp [hl]
theorem day_fixed {n : Nat} (hn : 1000000 ≤ n) {y d s : Int} (hy0 : 1 ≤ y) (hy1 : y ≤ 400) (hd0 : 1 ≤ d) (hd1 : d ≤ 365) (u : Unit) :
    ∃ v, posix_number n ((true, (d, (0, (0, (s, u))))), (y, ())) = some (v, ()) ∧ noonmarkref17_Day n ((true, (d, (0, (0, (s, u))))), (y, ())) = some (v, ()) ∧ -1000000 ≤ v ∧ v ≤ 1000000 := by
  have hr1 : rightB 2001 1 1 = true := by decide
  have hr2 : rightB y 1 1 = true := by rw [rightB_iff]; refine ⟨by omega, by omega, by omega, ?_⟩; have := longN_pos (y := y) (m := 1) (by omega) (by omega); omega
  have hx : dayN 2001 1 1 = ydayN 2001 := by decide
  have hx2 : dayN y 1 1 = ydayN y := by unfold dayN cumN; simp
  have hyb := ydayN_bd (y := y) (by omega) (by omega)
  have hyb2 : -800000 ≤ ydayN y ∧ ydayN y ≤ 0 := by unfold ydayN; omega
  have h2001 : ydayN 2001 = 11323 := by decide
  have h2002 : ydayN 2002 = 11688 := by decide
  obtain ⟨y', m', d', hr, he⟩ := exists_day (n := ydayN 2001 + d - 1) (by unfold ydayN; omega) (by unfold ydayN; omega)
  have hyr := dayN_year hr
  have hy' : y' = 2001 := by
    rcases Int.lt_trichotomy y' 2001 with h | h | h
    · have := ydayN_mono (show y' + 1 ≤ 2001 by omega); omega
    · exact h
    · have := ydayN_mono (show 2002 ≤ y' by omega); omega
  subst hy'
  obtain ⟨hm1, hm2⟩ := rightB_month hr
  have hrr := rightB_iff.1 hr
  have hry : rightB y m' d' = true := by
    rw [rightB_iff]; have := long2001 (y := y) (m := m'); omega
  have hdd : cumN 2001 m' + d' = d := by unfold dayN at he; omega
  have hcum := cum2001 y m' hm1
  have h3 : 3 ≤ m' ↔ 60 ≤ d := by
    have hl2 : longN 2001 2 = 28 := by decide
    have hc3 : cumN 2001 3 = 59 := by decide
    constructor
    · intro h
      rcases Int.lt_or_eq_of_le h with h | h
      · have := cumN_mono (y := 2001) (a := 3) (b := m') (by omega) h (by omega)
        have := longN_lo 2001 3; omega
      · subst h; omega
    · intro h
      by_cases h2 : m' ≤ 2
      · have : cumN 2001 m' + longN 2001 m' ≤ 59 := by
          rcases Int.lt_or_eq_of_le h2 with h | h
          · have : m' = 1 := by omega
            subst this; decide
          · subst h; decide
        omega
      · omega
  refine ⟨dayN y m' d', ?_, ?_, ?_, ?_⟩
  · unfold posix_number posix_number_px
    simp only [cond_true]
    have hon : posix_on n ((true, (d, (0, (0, (s, u))))), ()) = some (m', (((0 : Int), (d', ((0 : Int), ()))), ())) := by
      unfold posix_on posix_on_px
      simp only [cond_true]
      rw [cDays, if_pos hr1, Option.bind_some, hx]
      simp only
      rw [w64_id (x := ydayN 2001 + d) (by omega) (by omega), w64_id (by omega) (by omega), ← he, cDate_ok n hr, Option.bind_some]
    rw [hon, Option.bind_some]
    simp only
    rw [cDays, if_pos hry, Option.bind_some]
  · unfold noonmarkref17_Day noonmarkref17_Day_px
    simp only [cond_true]
    rw [rDays hn, if_pos hr2, Option.bind_some, rLeap, Option.bind_some]
    simp only [noonmarkref17_Day_s1, noonmarkref17_Day_p1]
    have hv : dayN y m' d' = ydayN y + (if leapB y = true ∧ 60 ≤ d then 1 else 0) + d - 1 := by
      unfold dayN
      rw [hcum]
      by_cases hl : leapB y = true ∧ 3 ≤ m'
      · rw [if_pos hl, if_pos ⟨hl.1, h3.1 hl.2⟩]; omega
      · rw [if_neg hl, if_neg (fun q => hl ⟨q.1, h3.2 q.2⟩)]; omega
    rw [hv, hx2]
    cases hl : leapB y
    · simp only [cond_false, Bool.false_eq_true, false_and, if_false]
      rw [w64_id (x := ydayN y + d) (by omega) (by omega), w64_id (by omega) (by omega)]
      congr 2; omega
    · simp only [cond_true, true_and, cb_dec, ge_iff_le]
      by_cases h6 : 60 ≤ d
      · rw [if_pos h6, if_pos h6]
        rw [w64_id (x := ydayN y + 1) (by omega) (by omega), w64_id (x := ydayN y + 1 + d) (by omega) (by omega), w64_id (by omega) (by omega)]
      · rw [if_neg h6, if_neg h6]
        rw [w64_id (x := ydayN y + d) (by omega) (by omega), w64_id (by omega) (by omega)]
        congr 2; omega
  · have := dayN_year hry; omega
  · have := dayN_year hry
    have hs := ydayN_succ y
    have : (if leapB y = true then (1 : Int) else 0) ≤ 1 := by split <;> omega
    omega
end Go.Proofs.YtedenojeljjnaaaDoorPi

namespace Go.Proofs.YtedenojeljjnaaaDoorPi
open Go Go.Proofs
set_option maxRecDepth 100000
set_option maxHeartbeats 2000000
set_option linter.unusedVariables false

theorem tmod7 {x : Int} (h : 0 ≤ x) : Int.tmod x 7 = x % 7 := Int.tmod_eq_emod_of_nonneg h
/-- The day of a week, by the document's search. -/
theorem week_loop {n : Nat} {k3 : noonmarkref17_Day_t3 → noonmarkref17_Day_R} {y first r d : Int} {e : D_noonmarkref17_Edge} (hd : e.2.1 = d) (hr0 : 0 ≤ r) (hr1 : r ≤ 6) (hrd : (first + r + 4) % 7 = d) (hb : -1000000 ≤ first ∧ first ≤ 1000000) (hn : 1000000 ≤ n) :
    rounds (fun r4 x' => noonmarkref17_Day_s4 n k3 r4 x') n (y, (first, e)) = k3 (y, (first + r, e)) := by
  refine rounds_eq (G := fun _ => k3 (y, (first + r, e))) (fun z => z.1 = y ∧ z.2.2 = e ∧ first ≤ z.2.1 ∧ z.2.1 ≤ first + r) (fun z => (first + r - z.2.1).toNat) ?_ n _ ⟨rfl, rfl, by simp, by simp; omega⟩ (by simp; omega)
  rintro rec ⟨y', nn, e'⟩ ⟨h1, h2, h3, h4⟩ hrec
  simp only at h1 h2 h3 h4
  subst h1 h2
  simp only [noonmarkref17_Day_s4, noonmarkref17_Day_p4]
  rw [rWeek, Option.bind_some]
  simp only [hd, cb_ne]
  by_cases hw : (nn + 4) % 7 = d
  · rw [if_pos hw]
    have : nn = first + r := by omega
    rw [this]
  · rw [if_neg hw, w64_id (by omega) (by omega)]
    exact hrec _ ⟨rfl, rfl, by simp; omega, by simp; omega⟩ (by simp; omega)
theorem step_loop {n : Nat} {first r w L : Int} {e : D_noonmarkref17_Edge} (hw : e.2.2.2.1 = w) (hw0 : 1 ≤ w) (hw1 : w ≤ 5) (hr0 : 0 ≤ r) (hr1 : r ≤ 6) (hL : 28 ≤ L ∧ L ≤ 31) (hb : -1000000 ≤ first ∧ first ≤ 1000000) (hn : 1000000 ≤ n) :
    noonmarkref17_Day_s6 n (noonmarkref17_Day_s5 n) (first + r, (first + L - 1, ((1 : Int), e))) = some ((first + (if r + 7 * (w - 1) ≥ L then r + 7 * (w - 1) - 7 else r + 7 * (w - 1))), ()) := by
  unfold noonmarkref17_Day_s6
  refine rounds_eq (G := fun _ => some ((first + (if r + 7 * (w - 1) ≥ L then r + 7 * (w - 1) - 7 else r + 7 * (w - 1))), ())) (fun z => z.2.1 = first + L - 1 ∧ z.2.2.2 = e ∧ 1 ≤ z.2.2.1 ∧ z.2.2.1 ≤ w ∧ z.1 = first + r + 7 * (z.2.2.1 - 1) ∧ z.1 ≤ first + L - 1) (fun z => (w - z.2.2.1).toNat) ?_ n _ ⟨rfl, rfl, by simp, by simp; omega, by simp, by simp; omega⟩ (by simp; omega)
  rintro rec ⟨nn, last, i, e'⟩ ⟨h1, h2, h3, h4, h5, h6⟩ hrec
  simp only at h1 h2 h3 h4 h5 h6
  subst h2
  simp only [noonmarkref17_Day_s7, noonmarkref17_Day_p7, cb_dec, hw, noonmarkref17_Day_s5, noonmarkref17_Day_p5]
  rw [w64_id (x := nn + 7) (by omega) (by omega), w64_id (x := i + 1) (by omega) (by omega)]
  by_cases h7 : i < w
  · rw [if_pos h7]
    by_cases h8 : nn + 7 ≤ last
    · rw [if_pos h8]
      exact hrec _ ⟨h1, rfl, by simp; omega, by simp; omega, by simp; omega, by simp; omega⟩ (by simp; omega)
    · rw [if_neg h8]
      congr 2
      split <;> omega
  · rw [if_neg h7]
    congr 2
    split <;> omega
theorem back_loop {n : Nat} {y m first at0 L : Int} {e : D_noonmarkref17_Edge} (hm : e.2.2.1 = m) (hL : longN y m = L) (hL2 : 28 ≤ L) (ha0 : 0 ≤ at0) (ha1 : at0 ≤ 34) (hb : -1000000 ≤ first ∧ first ≤ 1000000) (hn : 1000000 ≤ n) :
    posix_number_s0 n (y, (first, (at0, e))) = some ((first + (if at0 ≥ L then at0 - 7 else at0)), ()) := by
  unfold posix_number_s0
  obtain ⟨k, rfl⟩ : ∃ k, n = k + 2 := ⟨n - 2, by omega⟩
  have one : ∀ (rec : posix_number_t2 → posix_number_R) (a : Int), 0 ≤ a → a ≤ 34 → posix_number_s2 (k + 2) (posix_number_s1 (k + 2)) rec (y, (first, (a, e))) = if a ≥ L then rec (y, (first, (a - 7, e))) else some (first + a, ()) := fun rec a h0 h1 => by
    simp only [posix_number_s2, posix_number_p2, posix_number_s1, posix_number_p1, hm]
    rw [cLong, Option.bind_some, hL]
    simp only [cb_dec]
    rw [w64_id (x := a - 7) (by omega) (by omega), w64_id (x := first + a) (by omega) (by omega)]
  show posix_number_s2 (k + 2) (posix_number_s1 (k + 2)) (rounds _ (k + 1)) (y, (first, (at0, e))) = _
  rw [one _ at0 ha0 ha1]
  by_cases h : at0 ≥ L
  · rw [if_pos h, if_pos h]
    show posix_number_s2 (k + 2) (posix_number_s1 (k + 2)) (rounds _ k) (y, (first, (at0 - 7, e))) = _
    rw [one _ (at0 - 7) (by omega) (by omega), if_neg (by omega)]
  · rw [if_neg h, if_neg h]
theorem day_week {n : Nat} (hn : 1000000 ≤ n) {y m w d s : Int} (hy0 : 1 ≤ y) (hy1 : y ≤ 400) (hm0 : 1 ≤ m) (hm1 : m ≤ 12) (hw0 : 1 ≤ w) (hw1 : w ≤ 5) (hd0 : 0 ≤ d) (hd1 : d ≤ 6) (u : Unit) :
    ∃ v, posix_number n ((false, (d, (m, (w, (s, u))))), (y, ())) = some (v, ()) ∧ noonmarkref17_Day n ((false, (d, (m, (w, (s, u))))), (y, ())) = some (v, ()) ∧ -1000000 ≤ v ∧ v ≤ 1000000 := by
  have hlp := longN_pos (y := y) hm0 hm1
  have hr1 : rightB y m 1 = true := by rw [rightB_iff]; omega
  have hrL : rightB y m (longN y m) = true := by rw [rightB_iff]; omega
  have hfd : dayN y m (longN y m) = dayN y m 1 + longN y m - 1 := by unfold dayN; omega
  have hyr := dayN_year hr1
  have hyb2 : -800000 ≤ ydayN y ∧ ydayN y ≤ 0 := by unfold ydayN; omega
  have hs := ydayN_succ y
  have hl01 : (if leapB y = true then (1 : Int) else 0) ≤ 1 := by split <;> omega
  generalize hf : dayN y m 1 = first at *
  have hb : -1000000 ≤ first ∧ first ≤ 1000000 := by omega
  let r := (7 + d - (first + 4) % 7) % 7
  have hr : r = (7 + d - (first + 4) % 7) % 7 := rfl
  have hr0 : 0 ≤ r := by omega
  have hr6 : r ≤ 6 := by omega
  refine ⟨first + (if r + 7 * (w - 1) ≥ longN y m then r + 7 * (w - 1) - 7 else r + 7 * (w - 1)), ?_, ?_, ?_, ?_⟩
  · unfold posix_number posix_number_px
    simp only [cond_false]
    rw [cDays, if_pos hr1, Option.bind_some, hf]
    simp only
    rw [cWeek, Option.bind_some]
    simp only
    rw [w64_id (x := 7 + d) (by omega) (by omega), w64_id (x := 7 + d - (first + 4) % 7) (by omega) (by omega), tmod7 (by omega), w64_id (x := w - 1) (by omega) (by omega), w64_id (x := 7 * (w - 1)) (by omega) (by omega), w64_id (by omega) (by omega)]
    exact back_loop rfl rfl (by omega) (by omega) (by omega) hb hn
  · unfold noonmarkref17_Day noonmarkref17_Day_px
    simp only [cond_false]
    simp only [noonmarkref17_Day_s0, noonmarkref17_Day_p0]
    rw [rDays hn, if_pos hr1, Option.bind_some, hf]
    simp only [noonmarkref17_Day_s2]
    rw [week_loop (d := d) (r := r) rfl hr0 hr6 (by omega) hb hn]
    simp only [noonmarkref17_Day_s3, noonmarkref17_Day_p3]
    rw [rLong, Option.bind_some]
    simp only
    rw [rDays hn, if_pos hrL, Option.bind_some, hfd]
    exact step_loop rfl hw0 hw1 hr0 hr6 (by omega) hb hn
  · split <;> omega
  · split <;> omega
theorem day_eq {n : Nat} (hn : 1000000 ≤ n) {y : Int} (hy0 : 1 ≤ y) (hy1 : y ≤ 400) {e : D_noonmarkref17_Edge} (he : EdgeR e) :
    ∃ v, posix_number n (e, (y, ())) = some (v, ()) ∧ noonmarkref17_Day n (e, (y, ())) = some (v, ()) ∧ -1000000 ≤ v ∧ v ≤ 1000000 := by
  obtain ⟨fx, d, m, w, s, u⟩ := e
  unfold EdgeR at he
  cases fx
  · simp only [Bool.false_eq_true, if_false] at he
    obtain ⟨_, h1, h2, h3, h4, h5, h6⟩ := he
    exact day_week hn hy0 hy1 h1 h2 h3 h4 h5 h6 u
  · simp only [if_true] at he
    obtain ⟨_, h1, h2, h3, h4⟩ := he
    subst h3 h4
    exact day_fixed hn hy0 hy1 h1 h2 u
theorem se_eq {n : Nat} (hn : 1000000 ≤ n) {y : Int} (hy0 : 1 ≤ y) (hy1 : y ≤ 400) {x : D_noonmarkref17_Spec} (hx : RightP x) :
    ∃ a b, posix_spec_start n ((x, ()), (y, ())) = some (a, ()) ∧ noonmarkref26_start n (x, (y, ())) = some (a, ()) ∧ posix_spec_end n ((x, ()), (y, ())) = some (b, ()) ∧ noonmarkref26_end n (x, (y, ())) = some (b, ()) := by
  obtain ⟨_, _, h1, h2⟩ := hx
  obtain ⟨v, e1, e2, _, _⟩ := day_eq hn hy0 hy1 h1
  obtain ⟨v2, e3, e4, _, _⟩ := day_eq hn hy0 hy1 h2
  refine ⟨w64 (w64 (w64 (v * 86400) + x.2.2.2.2.1.2.2.2.2.1) - x.2.1), w64 (w64 (w64 (v2 * 86400) + x.2.2.2.2.2.1.2.2.2.2.1) - x.2.2.2.1), ?_, ?_, ?_, ?_⟩
  · unfold posix_spec_start posix_spec_start_px
    simp only
    rw [e1, Option.bind_some]
  · unfold noonmarkref26_start noonmarkref26_start_px
    simp only
    rw [e2, Option.bind_some]
  · unfold posix_spec_end posix_spec_end_px
    simp only
    rw [e3, Option.bind_some]
  · unfold noonmarkref26_end noonmarkref26_end_px
    simp only
    rw [e4, Option.bind_some]

/-! footers without a saving that never lasts -/
abbrev zEdge : D_noonmarkref17_Edge := (false, ((0 : Int), ((0 : Int), ((0 : Int), ((0 : Int), ())))))
abbrev stdOf (x : D_noonmarkref17_Spec) : D_noonmarkref17_Spec := (x.1, (x.2.1, ((⟨#[]⟩ : ByteArray), ((0 : Int), (zEdge, (zEdge, ()))))))
open Classical in
theorem simple_eq {n : Nat} (hn : 1000000 ≤ n) (x : D_noonmarkref17_Spec) (h1 : x.1.size ≤ 50) (h2 : x.2.2.1.size ≤ 50) :
    ∃ s, posix_Simple n (x, ()) = some (s, ()) ∧ noonmarkref26_Simple n (x, ()) = some (s, ()) := by
  obtain ⟨b, e1, e2, hp⟩ := right_eq hn x h1 h2
  unfold posix_Simple posix_Simple_px noonmarkref26_Simple noonmarkref26_Simple_px
  simp only
  rw [e1, e2, Option.bind_some, Option.bind_some]
  cases b
  · exact ⟨x, rfl, rfl⟩
  · simp only [Bool.not_true, cond_false]
    cases hd : (x.2.2.1.toList == (⟨#[]⟩ : ByteArray).toList)
    · simp only [cond_false]
      have hx := hp rfl hd
      let D : Int → Prop := fun y => ∃ a b, posix_spec_start n ((x, ()), (y, ())) = some (a, ()) ∧ posix_spec_end n ((x, ()), (y, ())) = some (b, ()) ∧ a ≠ b
      have hz1 : ∀ z : D_noonmarkref17_Spec, posix_Simple_s1 n (posix_Simple_s0 n) ((0 : Int), (x, (z, (x, ())))) = some ((if ∃ y, 1 ≤ y ∧ y ≤ 400 ∧ D y then x else stdOf x), ()) := fun z => by
        unfold posix_Simple_s1
        have := rounds_eq (f := fun r2 x' => posix_Simple_s2 n (posix_Simple_s0 n) r2 x') (G := fun q => some ((if ∃ y, q.1 + 1 ≤ y ∧ y ≤ 400 ∧ D y then x else stdOf x), ())) (fun q => 0 ≤ q.1 ∧ q.1 ≤ 400 ∧ q.2.1 = x ∧ q.2.2.2 = (x, ())) (fun q => (400 - q.1).toNat) ?_ n ((0 : Int), (x, (z, (x, ())))) ⟨by simp, by simp, rfl, rfl⟩ (by simp; omega)
        · exact this
        · rintro rec ⟨i, q1, q2, q3⟩ ⟨h3, h4, h5, h6⟩ hrec
          simp only at h3 h4 h5 h6
          subst h5 h6
          simp only [posix_Simple_s2, posix_Simple_p2, cb_dec, posix_Simple_s0, posix_Simple_p0]
          by_cases hi : i < 400
          · rw [if_pos hi, w64_id (x := i + 1) (by omega) (by omega)]
            obtain ⟨a, b, f1, _, f3, _⟩ := se_eq hn (y := i + 1) (by omega) (by omega) hx
            rw [f1, f3, Option.bind_some, Option.bind_some]
            simp only [cb_ne]
            by_cases hab : a = b
            · rw [if_pos hab, hrec _ ⟨by simp; omega, by simp; omega, rfl, rfl⟩ (by simp; omega)]
              have : (∃ y, i + 1 + 1 ≤ y ∧ y ≤ 400 ∧ D y) ↔ ∃ y, i + 1 ≤ y ∧ y ≤ 400 ∧ D y := by
                constructor
                · rintro ⟨y, g1, g2, g3⟩; exact ⟨y, by omega, g2, g3⟩
                · rintro ⟨y, g1, g2, g3⟩
                  refine ⟨y, ?_, g2, g3⟩
                  by_cases hy : y = i + 1
                  · subst hy
                    obtain ⟨a', b', k1, k2, k3⟩ := g3
                    rw [f1] at k1; rw [f3] at k2
                    simp only [Option.some.injEq, Prod.mk.injEq, and_true] at k1 k2
                    exact absurd (k1.symm.trans (hab.trans k2)) k3
                  · omega
              simp only [this]
            · rw [if_neg hab, if_pos ⟨i + 1, by omega, by omega, a, b, f1, f3, hab⟩]
          · rw [if_neg hi, if_neg (fun ⟨y, g1, g2, _⟩ => by omega)]
      have hz2 : ∀ z : D_noonmarkref17_Spec, noonmarkref26_Simple_s1 n (noonmarkref26_Simple_s0 n) ((1 : Int), (x, z)) = some ((if ∃ y, 1 ≤ y ∧ y ≤ 400 ∧ D y then x else stdOf x), ()) := fun z => by
        unfold noonmarkref26_Simple_s1
        have := rounds_eq (f := fun r2 x' => noonmarkref26_Simple_s2 n (noonmarkref26_Simple_s0 n) r2 x') (G := fun q => some ((if ∃ y, q.1 ≤ y ∧ y ≤ 400 ∧ D y then x else stdOf x), ())) (fun q => 1 ≤ q.1 ∧ q.1 ≤ 401 ∧ q.2.1 = x) (fun q => (401 - q.1).toNat) ?_ n ((1 : Int), (x, z)) ⟨by simp, by simp, rfl⟩ (by simp; omega)
        · exact this
        · rintro rec ⟨i, q1, q2⟩ ⟨h3, h4, h5⟩ hrec
          simp only at h3 h4 h5
          subst h5
          simp only [noonmarkref26_Simple_s2, noonmarkref26_Simple_p2, cb_dec, noonmarkref26_Simple_s0, noonmarkref26_Simple_p0]
          by_cases hi : i ≤ 400
          · rw [if_pos hi, w64_id (x := i + 1) (by omega) (by omega)]
            obtain ⟨a, b, f1, f2, f3, f4⟩ := se_eq hn (y := i) (by omega) (by omega) hx
            rw [f2, f4, Option.bind_some, Option.bind_some]
            simp only [cb_ne]
            by_cases hab : a = b
            · rw [if_pos hab, hrec _ ⟨by simp; omega, by simp; omega, rfl⟩ (by simp; omega)]
              have : (∃ y, i + 1 ≤ y ∧ y ≤ 400 ∧ D y) ↔ ∃ y, i ≤ y ∧ y ≤ 400 ∧ D y := by
                constructor
                · rintro ⟨y, g1, g2, g3⟩; exact ⟨y, by omega, g2, g3⟩
                · rintro ⟨y, g1, g2, g3⟩
                  refine ⟨y, ?_, g2, g3⟩
                  by_cases hy : y = i
                  · subst hy
                    obtain ⟨a', b', k1, k2, k3⟩ := g3
                    rw [f1] at k1; rw [f3] at k2
                    simp only [Option.some.injEq, Prod.mk.injEq, and_true] at k1 k2
                    exact absurd (k1.symm.trans (hab.trans k2)) k3
                  · omega
              simp only [this]
            · rw [if_neg hab, if_pos ⟨i, by omega, by omega, a, b, f1, f3, hab⟩]
          · rw [if_neg hi, if_neg (fun ⟨y, g1, g2, _⟩ => by omega)]
      exact ⟨_, hz1 _, hz2 _⟩
    · exact ⟨x, rfl, rfl⟩
theorem own_id (n : Nat) (x : D_noonmarkref17_Spec) : noonmarklaw17_Own n (x, ()) = some (x, ()) := rfl
theorem eqD_spec (x : D_noonmarkref17_Spec) : eqD T_noonmarkref17_Spec x x = true := by
  have hb : ∀ c : ByteArray, (c == c) = true := fun c => by
    show ByteArray.beq c c = true
    unfold ByteArray.beq
    exact beq_self_eq_true (ByteArray.data c)
  simp [eqD, hb]
theorem light_eq (n : Nat) (x : D_noonmarkref17_Spec) : noonmarklaw26_light n (x, ()) = some (decide (x.1.size ≤ 50 ∧ x.2.2.1.size ≤ 50), ()) := by
  unfold noonmarklaw26_light noonmarklaw26_light_px
  simp only [cb_dec]
  by_cases h : x.1.size ≤ 50
  · rw [if_pos (by omega)]
    congr 2
    apply decide_eq_decide.2
    omega
  · rw [if_neg (by omega)]
    simp [h]
/-- The law's function answers true. -/
theorem posixSimple_good {n : Nat} (hn : 1000000 ≤ n) (x : D_noonmarkref17_Spec × D_posix_spec) : noonmarklaw26_PosixSimple n x = some (true, ()) := by
  obtain ⟨a, b, u⟩ := x
  unfold noonmarklaw26_PosixSimple noonmarklaw26_PosixSimple_px
  simp only [light_eq, Option.bind_some, aliveF]
  by_cases ha : a.1.size ≤ 50 ∧ a.2.2.1.size ≤ 50
  · by_cases hb : b.1.size ≤ 50 ∧ b.2.2.1.size ≤ 50
    · obtain ⟨s, e1, e2⟩ := simple_eq hn a ha.1 ha.2
      obtain ⟨t, e3, e4⟩ := simple_eq hn b hb.1 hb.2
      have hq : posix_Equal n (a, (b, ())) = noonmarkref26_Equal n (a, (b, ())) := by
        unfold posix_Equal posix_Equal_px noonmarkref26_Equal noonmarkref26_Equal_px
        simp only
        rw [e1, e2, Option.bind_some, Option.bind_some, e3, e4]
      obtain ⟨c, hc⟩ : ∃ c, noonmarkref26_Equal n (a, (b, ())) = some (c, ()) := by
        unfold noonmarkref26_Equal noonmarkref26_Equal_px
        simp only
        rw [e2, Option.bind_some, e4, Option.bind_some]
        exact ⟨_, rfl⟩
      simp only [ha, hb, and_self, decide_true, Bool.not_true, cond_false, own_id, Option.bind_some, e1, e2, eqD_spec, cond_true, hq, hc, beq_self_eq_true]
    · simp only [ha, and_self, decide_true, Bool.not_true, cond_false, hb, decide_false, Bool.not_false, cond_true]
  · simp only [ha, decide_false, Bool.not_false, cond_true]
theorem posixSimple_law (x : D_noonmarkref17_Spec × D_posix_spec) : noonmarklaw26_PosixSimple 1000000 x = some (true, ()) := posixSimple_good (Nat.le_refl _) x
end Go.Proofs.YtedenojeljjnaaaDoorPi
