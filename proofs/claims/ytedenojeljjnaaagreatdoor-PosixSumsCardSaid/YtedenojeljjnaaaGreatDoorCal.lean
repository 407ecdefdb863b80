import Derived.Test.YtedenojeljjnaaaGreatDoorPiC
import Derived.Test.YtedenojeljjnaaaGreatDoorFn
set_option linter.unusedVariables false
namespace Go.Proofs.YtedenojeljjnaaaGreatDoorPi
open Go

/-! plain words for the printed functions -/
theorem w64_id {x : Int} (h0 : -9223372036854775808 ≤ x) (h1 : x ≤ 9223372036854775807) : w64 x = x := by
  show IntKind.wrap .i64 x = x
  unfold IntKind.wrap IntKind.bits IntKind.signed
  simp
  omega
theorem cb_eq {α : Type} (x y : Int) (a b : α) : (bif (x == y) then a else b) = if x = y then a else b := by
  by_cases h : x = y
  · have : (x == y) = true := beq_iff_eq.2 h
    rw [if_pos h, this]; rfl
  · have : (x == y) = false := beq_eq_false_iff_ne.2 h
    rw [if_neg h, this]; rfl
theorem cb_ne {α : Type} (x y : Int) (a b : α) : (bif (x != y) then a else b) = if x = y then b else a := by
  by_cases h : x = y
  · have : (x == y) = true := beq_iff_eq.2 h
    rw [if_pos h]; unfold bne; rw [this]; rfl
  · have : (x == y) = false := beq_eq_false_iff_ne.2 h
    rw [if_neg h]; unfold bne; rw [this]; rfl
theorem cb_not {α : Type} (c : Bool) (a b : α) : (bif !c then a else b) = bif c then b else a := by cases c <;> rfl
theorem cb_dec {α : Type} (p : Prop) [Decidable p] (a b : α) : (bif decide p then a else b) = if p then a else b := by
  by_cases h : p
  · rw [if_pos h, decide_eq_true h]; rfl
  · rw [if_neg h, decide_eq_false h]; rfl
theorem cb_if {α : Type} (c : Bool) (a b : α) : (bif c then a else b) = if c = true then a else b := by cases c <;> rfl
theorem tmod_zero (x k : Int) : (Int.tmod x k = 0) ↔ (x % k = 0) := by
  rw [← Int.dvd_iff_tmod_eq_zero, Int.dvd_iff_emod_eq_zero]
/-- Rounds come to G where each round does. -/
theorem rounds_eq {R σ : Type} {f : (σ → Option R) → σ → Option R} {G : σ → Option R} (I : σ → Prop) (μ : σ → Nat) (h : ∀ rec z, I z → (∀ z', I z' → μ z' < μ z → rec z' = G z') → f rec z = G z) : ∀ n z, I z → μ z < n → rounds f n z = G z
  | 0, _, _, h2 => by omega
  | n + 1, z, hI, h2 => h (rounds f n) z hI fun z' hI' hm => rounds_eq I μ h n z' hI' (by omega)
theorem and_mod {y : Int} {k : Nat} (hk : k < 64) : ((BitVec.ofInt (IntKind.bits .i64) y &&& BitVec.ofInt (IntKind.bits .i64) ((2 ^ k - 1 : Nat) : Int)).toNat : Int) = y % ((2 ^ k : Nat) : Int) := by
  show ((BitVec.ofInt 64 y &&& BitVec.ofInt 64 ((2 ^ k - 1 : Nat) : Int)).toNat : Int) = _
  have hlt : 2 ^ k - 1 < 2 ^ 64 := by
    have : 2 ^ k < 2 ^ 64 := Nat.pow_lt_pow_right (by omega) hk
    omega
  rw [BitVec.toNat_and, BitVec.toNat_ofInt, BitVec.toNat_ofInt]
  have e1 : (((2 ^ k - 1 : Nat) : Int) % ((2 ^ 64 : Nat) : Int)).toNat = 2 ^ k - 1 := by
    rw [← Int.natCast_emod, Int.toNat_natCast, Nat.mod_eq_of_lt hlt]
  rw [e1, Nat.and_two_pow_sub_one_eq_mod, Int.natCast_emod]
  rw [Int.toNat_of_nonneg (Int.emod_nonneg _ (by omega))]
  have hd : ((2 ^ k : Nat) : Int) ∣ ((2 ^ 64 : Nat) : Int) := Int.natCast_dvd_natCast.2 (Nat.pow_dvd_pow 2 (by omega))
  exact Int.emod_emod_of_dvd y hd
/-- It answers, and so. -/
def Ok {R : Type} (o : Option R) (Q : R → Prop) : Prop := ∃ r, o = some r ∧ Q r
theorem Ok.ret {R : Type} {x : R} {Q : R → Prop} (h : Q x) : Ok (some x) Q := ⟨x, rfl, h⟩
theorem Ok.bind {A R : Type} {o : Option A} {f : A → Option R} {P : A → Prop} {Q : R → Prop} (h : Ok o P) (k : ∀ a, P a → Ok (f a) Q) : Ok (o.bind f) Q := by
  obtain ⟨a, rfl, ha⟩ := h
  exact k a ha
theorem Ok.mono {R : Type} {o : Option R} {P Q : R → Prop} (h : Ok o P) (k : ∀ r, P r → Q r) : Ok o Q := by
  obtain ⟨a, e, ha⟩ := h
  exact ⟨a, e, k a ha⟩
theorem Ok.bif {R : Type} {c : Bool} {a b : Option R} {Q : R → Prop} (h1 : c = true → Ok a Q) (h2 : c = false → Ok b Q) : Ok (bif c then a else b) Q := by
  cases c with
  | true => exact h1 rfl
  | false => exact h2 rfl
theorem Ok.dec {R : Type} {p : Prop} [Decidable p] {a b : Option R} {Q : R → Prop} (h1 : p → Ok a Q) (h2 : ¬ p → Ok b Q) : Ok (cond (decide p) a b) Q := by
  by_cases h : p
  · rw [decide_eq_true h]; exact h1 h
  · rw [decide_eq_false h]; exact h2 h
theorem Ok.get {A : Type} {xs : List A} {i : Int} (h0 : 0 ≤ i) (h1 : i < (xs.length : Int)) : Ok (xs[Int.toNat i]?) (fun x => x ∈ xs ∧ xs[Int.toNat i]? = some x) := by
  have hlt : i.toNat < xs.length := by omega
  exact ⟨xs[i.toNat], List.getElem?_eq_getElem hlt, List.getElem_mem hlt, List.getElem?_eq_getElem hlt⟩
theorem rounds_ok {R σ : Type} {f : (σ → Option R) → σ → Option R} {Q : R → Prop} (I : σ → Prop) (μ : σ → Nat) (h : ∀ rec z, I z → (∀ z', I z' → μ z' < μ z → Ok (rec z') Q) → Ok (f rec z) Q) : ∀ n z, I z → μ z < n → Ok (rounds f n z) Q
  | 0, _, _, h2 => by omega
  | n + 1, z, hI, h2 => h (rounds f n) z hI fun z' hI' hm => rounds_ok I μ h n z' hI' (by omega)
theorem i64max : IntKind.i64.max = 9223372036854775807 := by decide
end Go.Proofs.YtedenojeljjnaaaGreatDoorPi

namespace Go.Proofs.YtedenojeljjnaaaGreatDoorPi

/-! the calendar, in plain numbers -/
def leapB (y : Int) : Bool := decide (y % 4 = 0 ∧ (y % 100 ≠ 0 ∨ y % 400 = 0))
def longN (y m : Int) : Int := if m < 1 ∨ 12 < m then 0 else if m = 2 then (if leapB y = true then 29 else 28) else if m = 4 ∨ m = 6 ∨ m = 9 ∨ m = 11 then 30 else 31
def rightB (y m d : Int) : Bool := decide (-9999 ≤ y ∧ y ≤ 9999 ∧ 1 ≤ d ∧ d ≤ longN y m)
/-- The number of January 1. -/
def ydayN (y : Int) : Int := 365 * (y - 1970) + (y - 1) / 4 - (y - 1) / 100 + (y - 1) / 400 - 477
def cumN (y m : Int) : Int := if m ≤ 1 then 0 else if m = 2 then 31 else (if leapB y = true then 60 else 59) + (153 * (m - 3) + 2) / 5
def dayN (y m d : Int) : Int := ydayN y + cumN y m + d - 1

theorem leapB_iff {y : Int} : leapB y = true ↔ y % 4 = 0 ∧ (y % 100 ≠ 0 ∨ y % 400 = 0) := by simp [leapB]
theorem leapB_not {y : Int} : leapB y = false ↔ ¬ (y % 4 = 0 ∧ (y % 100 ≠ 0 ∨ y % 400 = 0)) := by simp [leapB]
theorem ydayN_succ (y : Int) : ydayN (y + 1) = ydayN y + 365 + (if leapB y = true then 1 else 0) := by
  unfold ydayN
  cases h : leapB y
  · have := leapB_not.1 h; simp; omega
  · have := leapB_iff.1 h; simp; omega
theorem ydayN_400 (y : Int) : ydayN (y + 400) = ydayN y + 146097 := by unfold ydayN; omega
theorem longN_pos {y m : Int} (h1 : 1 ≤ m) (h2 : m ≤ 12) : 28 ≤ longN y m ∧ longN y m ≤ 31 := by
  unfold longN
  rw [if_neg (by omega)]
  split
  · split <;> omega
  · split <;> omega
theorem longN_out {y m : Int} (h : ¬ (1 ≤ m ∧ m ≤ 12)) : longN y m = 0 := by
  unfold longN; rw [if_pos (by omega)]
theorem longN_hi (y m : Int) : longN y m ≤ 31 := by
  by_cases h : 1 ≤ m ∧ m ≤ 12
  · exact (longN_pos h.1 h.2).2
  · rw [longN_out h]; omega
theorem longN_lo (y m : Int) : 0 ≤ longN y m := by
  by_cases h : 1 ≤ m ∧ m ≤ 12
  · have := (longN_pos (y := y) h.1 h.2).1; omega
  · rw [longN_out h]; omega
theorem cumN_succ {y m : Int} (h1 : 1 ≤ m) (h2 : m ≤ 12) : cumN y (m + 1) = if m = 12 then cumN y 13 else cumN y m + longN y m := by
  have : m = 1 ∨ m = 2 ∨ m = 3 ∨ m = 4 ∨ m = 5 ∨ m = 6 ∨ m = 7 ∨ m = 8 ∨ m = 9 ∨ m = 10 ∨ m = 11 ∨ m = 12 := by omega
  unfold cumN longN
  cases leapB y <;> rcases this with h | h | h | h | h | h | h | h | h | h | h | h <;> subst h <;> decide
theorem cumN_year (y : Int) : cumN y 12 + longN y 12 = 365 + (if leapB y = true then 1 else 0) := by
  unfold cumN longN
  cases leapB y <;> decide
theorem cumN_lo (y m : Int) : 0 ≤ cumN y m := by
  unfold cumN; split
  · omega
  · split
    · omega
    · split <;> omega
theorem cumN_hi {y m : Int} (h : m ≤ 12) : cumN y m + longN y m ≤ 365 + (if leapB y = true then 1 else 0) := by
  by_cases h0 : m < 1
  · rw [longN_out (by omega)]
    unfold cumN; rw [if_pos (by omega)]; split <;> omega
  have : m = 1 ∨ m = 2 ∨ m = 3 ∨ m = 4 ∨ m = 5 ∨ m = 6 ∨ m = 7 ∨ m = 8 ∨ m = 9 ∨ m = 10 ∨ m = 11 ∨ m = 12 := by omega
  unfold cumN longN
  cases leapB y <;> rcases this with h | h | h | h | h | h | h | h | h | h | h | h <;> subst h <;> decide

theorem rightB_iff {y m d : Int} : rightB y m d = true ↔ -9999 ≤ y ∧ y ≤ 9999 ∧ 1 ≤ d ∧ d ≤ longN y m := by simp [rightB]
theorem rightB_month {y m d : Int} (h : rightB y m d = true) : 1 ≤ m ∧ m ≤ 12 := by
  have := rightB_iff.1 h
  by_cases hm : 1 ≤ m ∧ m ≤ 12
  · exact hm
  · rw [longN_out hm] at this; omega

/-- A day lies within its year. -/
theorem dayN_year {y m d : Int} (h : rightB y m d = true) : ydayN y ≤ dayN y m d ∧ dayN y m d < ydayN (y + 1) := by
  have hr := rightB_iff.1 h
  have hm := rightB_month h
  have h1 := cumN_lo y m
  have h2 := cumN_hi (y := y) hm.2
  rw [ydayN_succ]
  unfold dayN
  omega
theorem ydayN_mono {a b : Int} (h : a ≤ b) : ydayN a ≤ ydayN b := by unfold ydayN; omega
theorem ydayN_lt {a b : Int} (h : a < b) : ydayN a < ydayN b := by unfold ydayN; omega
theorem cumN_mono {y a b : Int} (h0 : 1 ≤ a) (h : a < b) (hb : b ≤ 12) : cumN y a + longN y a ≤ cumN y b := by
  have ha : a = 1 ∨ a = 2 ∨ a = 3 ∨ a = 4 ∨ a = 5 ∨ a = 6 ∨ a = 7 ∨ a = 8 ∨ a = 9 ∨ a = 10 ∨ a = 11 := by omega
  unfold cumN longN
  cases hl : leapB y <;> rcases ha with h | h | h | h | h | h | h | h | h | h | h <;> subst h <;> simp <;> split <;> omega
/-- A number is one day's alone. -/
theorem dayN_inj {y m d y' m' d' : Int} (h : rightB y m d = true) (h' : rightB y' m' d' = true) (e : dayN y m d = dayN y' m' d') : y = y' ∧ m = m' ∧ d = d' := by
  have a := dayN_year h
  have a' := dayN_year h'
  have hy : y = y' := by
    rcases Int.lt_trichotomy y y' with g | g | g
    · have := ydayN_mono (a := y + 1) (b := y') (by omega); omega
    · exact g
    · have := ydayN_mono (a := y' + 1) (b := y) (by omega); omega
  subst hy
  have r := rightB_iff.1 h
  have r' := rightB_iff.1 h'
  have m1 := rightB_month h
  have m2 := rightB_month h'
  have hm : m = m' := by
    unfold dayN at e
    rcases Int.lt_trichotomy m m' with g | g | g
    · have := cumN_mono (y := y) m1.1 g m2.2; omega
    · exact g
    · have := cumN_mono (y := y) m2.1 g m1.2; omega
  subst hm
  unfold dayN at e
  exact ⟨rfl, rfl, by omega⟩
/-- The number by years that begin in March. -/
theorem number_eq {y m d : Int} (h1 : 1 ≤ m) (h2 : m ≤ 12) : (y' : Int) → (m' : Int) → y' = (if m ≤ 2 then y - 1 else y) → m' = (if m ≤ 2 then m + 12 else m) →
    (y' + 12000) / 400 * 146097 + (y' + 12000 - (y' + 12000) / 400 * 400) * 365 + (y' + 12000 - (y' + 12000) / 400 * 400) / 4 - (y' + 12000 - (y' + 12000) / 400 * 400) / 100 + ((153 * (m' - 3) + 2) / 5 + d - 1) - 5102378 = dayN y m d := by
  intro y' m' hy hm
  subst hy hm
  unfold dayN ydayN cumN
  by_cases hm : m ≤ 2
  · rw [if_pos hm, if_pos hm]
    by_cases h : m ≤ 1
    · rw [if_pos h]; obtain rfl : m = 1 := by omega
      omega
    · rw [if_neg h, if_pos (by omega)]; obtain rfl : m = 2 := by omega
      omega
  · rw [if_neg hm, if_neg hm, if_neg (by omega), if_neg (by omega)]
    cases hl : leapB y
    · have := leapB_not.1 hl; simp; omega
    · have := leapB_iff.1 hl; simp; omega
end Go.Proofs.YtedenojeljjnaaaGreatDoorPi

namespace Go.Proofs.YtedenojeljjnaaaGreatDoorPi
set_option maxRecDepth 100000

theorem exists_year {n : Int} : ∀ (k : Nat) (a : Int), ydayN a ≤ n → n < ydayN (a + k) → ∃ y, a ≤ y ∧ y < a + k ∧ ydayN y ≤ n ∧ n < ydayN (y + 1)
  | 0, a, h1, h2 => by simp at h2; omega
  | k + 1, a, h1, h2 => by
    by_cases h : n < ydayN (a + 1)
    · exact ⟨a, by omega, by omega, h1, h⟩
    · obtain ⟨y, y1, y2, y3, y4⟩ := exists_year (n := n) k (a + 1) (Int.not_lt.1 h) (by rw [show a + 1 + (k : Int) = a + ((k + 1 : Nat) : Int) by omega]; exact h2)
      exact ⟨y, by omega, by omega, y3, y4⟩
theorem exists_month {y r : Int} (h0 : 0 ≤ r) (h1 : r < 365 + (if leapB y = true then 1 else 0)) : ∃ m, 1 ≤ m ∧ m ≤ 12 ∧ cumN y m ≤ r ∧ r < cumN y m + longN y m := by
  have key : ∀ (k : Nat) (m : Int), 1 ≤ m → m + k = 13 → cumN y m ≤ r → ∃ m, 1 ≤ m ∧ m ≤ 12 ∧ cumN y m ≤ r ∧ r < cumN y m + longN y m := by
    intro k
    induction k with
    | zero =>
      intro m a b c
      obtain rfl : m = 13 := by omega
      exfalso
      unfold cumN at c
      simp at c
      split at h1 <;> rename_i hl <;> simp [hl] at c <;> omega
    | succ k ih =>
      intro m a b c
      by_cases h : r < cumN y m + longN y m
      · exact ⟨m, a, by omega, c, h⟩
      · by_cases hm : m = 12
        · subst hm
          have := cumN_year y; omega
        · have hs := cumN_succ (y := y) a (by omega)
          rw [if_neg hm] at hs
          exact ih (m + 1) (by omega) (by omega) (by rw [hs]; omega)
  exact key 12 1 (by omega) (by omega) (by unfold cumN; simp; exact h0)
/-- Every day of the years that are there is a day. -/
theorem exists_day {n : Int} (h0 : ydayN (-9999) ≤ n) (h1 : n < ydayN 10000) : ∃ y m d, rightB y m d = true ∧ dayN y m d = n := by
  obtain ⟨y, y1, y2, y3, y4⟩ := exists_year (n := n) 19999 (-9999) h0 (by simpa using h1)
  rw [ydayN_succ] at y4
  obtain ⟨m, m1, m2, m3, m4⟩ := exists_month (y := y) (r := n - ydayN y) (by omega) (by omega)
  exact ⟨y, m, n - ydayN y - cumN y m + 1, rightB_iff.2 ⟨by omega, by omega, by omega, by omega⟩, by unfold dayN; omega⟩

/-! the year of a day, out of cycles of 400 years -/
def gYear (t : Int) : Int := (t - t / 1460 + t / 36524 - t / 146096) / 365
def sYear (k : Int) : Int := 365 * k + k / 4 - k / 100
theorem sYear_succ (k : Int) : sYear (k + 1) = sYear k + 365 + (if (k + 1) % 4 = 0 ∧ (k + 1) % 100 ≠ 0 then 1 else 0) := by
  unfold sYear
  split <;> omega
theorem gYear_mono {a b : Int} (h0 : 0 ≤ a) (h : a ≤ b) (hb : b ≤ 146095) : gYear a ≤ gYear b := by
  unfold gYear
  have : a - a / 1460 + a / 36524 - a / 146096 ≤ b - b / 1460 + b / 36524 - b / 146096 := by omega
  omega
theorem gYear_at : ((List.range 400).all fun k => decide (gYear (sYear (k : Int)) = (k : Int)) && decide (gYear (min (sYear ((k : Int) + 1) - 1) 146095) = (k : Int))) = true := by decide +kernel
theorem gYear_last : gYear 146096 = 399 := by decide
theorem gYear_eq {k t : Int} (k0 : 0 ≤ k) (k1 : k ≤ 399) (h0 : sYear k ≤ t) (h1 : t < sYear (k + 1) ∨ (k = 399 ∧ t = 146096)) : gYear t = k := by
  have hk := List.all_eq_true.1 gYear_at k.toNat (List.mem_range.2 (by omega))
  simp only [Bool.and_eq_true, decide_eq_true_eq] at hk
  rw [Int.toNat_of_nonneg k0] at hk
  by_cases he : t = 146096
  · subst he
    rw [gYear_last]
    unfold sYear at h1
    omega
  have s0 : 0 ≤ sYear k := by unfold sYear; omega
  have sm : sYear (k + 1) ≤ 146097 := by unfold sYear; omega
  have a := gYear_mono s0 h0 (by omega)
  have b := gYear_mono (a := t) (b := min (sYear (k + 1) - 1) 146095) (by omega) (by omega) (by omega)
  rw [hk.1] at a; rw [hk.2] at b
  omega

/-- The day of a number, as the program has it. -/
theorem date_eq {y m d : Int} (h : rightB y m d = true) : (z era doe yoe doy mp : Int) → z = dayN y m d + 5102378 → era = z / 146097 → doe = z - era * 146097 → yoe = gYear doe → doy = doe - (365 * yoe + yoe / 4 - yoe / 100) → mp = (5 * doy + 2) / 153 →
    (0 ≤ z ∧ 0 ≤ doe ∧ doe ≤ 146096 ∧ 0 ≤ yoe ∧ yoe ≤ 399 ∧ 0 ≤ doy ∧ doy ≤ 366 ∧ 0 ≤ mp ∧ mp ≤ 11 ∧ 0 ≤ era ∧ era ≤ 60) ∧ doy - (153 * mp + 2) / 5 + 1 = d ∧ (if 12 < mp + 3 then mp + 3 - 12 else mp + 3) = m ∧ (if 12 < mp + 3 then yoe + era * 400 - 12000 + 1 else yoe + era * 400 - 12000) = y := by
  intro z era doe yoe doy mp hz he hd hy hdy hmp
  have hr := rightB_iff.1 h
  have hm := rightB_month h
  obtain ⟨y', hy'⟩ : ∃ y', y' = (if m ≤ 2 then y - 1 else y) := ⟨_, rfl⟩
  obtain ⟨m', hm'⟩ : ∃ m', m' = (if m ≤ 2 then m + 12 else m) := ⟨_, rfl⟩
  have hn := number_eq (d := d) hm.1 hm.2 y' m' hy' hm'
  obtain ⟨E, hE⟩ : ∃ E, E = (y' + 12000) / 400 := ⟨_, rfl⟩
  obtain ⟨K, hK⟩ : ∃ K, K = y' + 12000 - E * 400 := ⟨_, rfl⟩
  obtain ⟨D, hD⟩ : ∃ D, D = (153 * (m' - 3) + 2) / 5 + d - 1 := ⟨_, rfl⟩
  have hK0 : 0 ≤ K ∧ K ≤ 399 := by omega
  rw [← hE, ← hK, ← hD] at hn
  have hm3 : 3 ≤ m' ∧ m' ≤ 14 := by
    by_cases g : m ≤ 2
    · rw [if_pos g] at hm'; omega
    · rw [if_neg g] at hm'; omega
  -- the day within the year that begins in March
  have hlong : d ≤ longN y m := hr.2.2.2
  have hl31 : ∀ q : Int, m' = q → (153 * (q - 3) + 2) / 5 + d - 1 = D := fun q hq => by subst hq; omega
  have hDlo : 0 ≤ D := by omega
  have hDhi : sYear K + D < sYear (K + 1) ∨ (K = 399 ∧ sYear K + D = 146096) := by
    have hlp : ∀ yy : Int, leapB yy = true → yy % 4 = 0 ∧ (yy % 100 ≠ 0 ∨ yy % 400 = 0) := fun yy => leapB_iff.1
    have hss := sYear_succ K
    have h399 : K = 399 → sYear K = 145731 ∧ sYear (K + 1) = 146096 := fun q => by subst q; decide
    by_cases g : m ≤ 2
    · rw [if_pos g] at hm' hy'
      by_cases g1 : m = 1
      · subst g1
        have : longN y 1 = 31 := by unfold longN; simp
        left
        split at hss <;> omega
      · obtain rfl : m = 2 := by omega
        cases hl : leapB y
        · have : longN y 2 = 28 := by unfold longN; simp [hl]
          left
          split at hss <;> omega
        · have h2 := leapB_iff.1 hl
          have : longN y 2 = 29 := by unfold longN; simp [hl]
          by_cases q : K = 399
          · have := h399 q; omega
          · left
            have q1 : (K + 1) % 4 = 0 := by omega
            have q2 : (K + 1) % 100 ≠ 0 := by omega
            rw [if_pos ⟨q1, q2⟩] at hss
            omega
    · rw [if_neg g] at hm' hy'
      have : d ≤ 31 := Int.le_trans hlong (longN_hi y m)
      have : m ≤ 12 := hm.2
      left
      split at hss <;> omega
  have hmax : sYear (K + 1) ≤ 146097 := by unfold sYear; omega
  have hs0 : 0 ≤ sYear K := by unfold sYear; omega
  have hz2 : z = E * 146097 + (sYear K + D) := by
    unfold sYear; omega
  have hera : era = E := by omega
  have hdoe : doe = sYear K + D := by omega
  have hyoe : yoe = K := by
    rw [hy, hdoe]
    exact gYear_eq hK0.1 hK0.2 (by omega) hDhi
  have hdoy : doy = D := by
    rw [hdy, hdoe, hyoe]; unfold sYear; omega
  have hlen : ∀ q : Int, m' = q → d ≤ (if q = 3 ∨ q = 5 ∨ q = 7 ∨ q = 8 ∨ q = 10 ∨ q = 12 ∨ q = 13 then 31 else if q = 14 then 29 else 30) := by
    intro q hq
    subst hq
    unfold longN at hlong
    by_cases g : m ≤ 2
    · rw [if_pos g] at hm'
      rw [if_neg (by omega)] at hlong
      by_cases g1 : m = 1
      · rw [if_neg (by omega), if_neg (by omega)] at hlong
        rw [if_pos (by omega)]; exact hlong
      · rw [if_pos (by omega)] at hlong
        rw [if_neg (by omega), if_pos (by omega)]
        split at hlong <;> omega
    · rw [if_neg g] at hm'
      subst hm'
      rw [if_neg (by omega), if_neg (by omega)] at hlong
      split at hlong
      · rw [if_neg (by omega), if_neg (by omega)]; exact hlong
      · split
        · exact hlong
        · omega
  have hmp' : mp = m' - 3 ∧ D - (153 * (m' - 3) + 2) / 5 + 1 = d := by
    refine ⟨?_, by omega⟩
    rw [hmp, hdoy, hD]
    have hq := hlen m' rfl
    have : m' = 3 ∨ m' = 4 ∨ m' = 5 ∨ m' = 6 ∨ m' = 7 ∨ m' = 8 ∨ m' = 9 ∨ m' = 10 ∨ m' = 11 ∨ m' = 12 ∨ m' = 13 ∨ m' = 14 := by omega
    have hd1 := hr.2.2.1
    clear hlen hl31 hDhi hz2 hdoe hera hdoy hdy hyoe hy hd he hz hmp hn hD hlong
    rcases this with g | g | g | g | g | g | g | g | g | g | g | g <;> subst g <;> simp at hq ⊢ <;> omega
  have hE0 : 0 ≤ E ∧ E ≤ 60 := by
    have := hr.1; have := hr.2.1
    by_cases g : m ≤ 2
    · rw [if_pos g] at hy'; omega
    · rw [if_neg g] at hy'; omega
  refine ⟨⟨by omega, by omega, by omega, by omega, by omega, by omega, ?_, by omega, by omega, by omega, by omega⟩, ?_, ?_, ?_⟩
  · have hq := hlen m' rfl
    rw [hdoy]
    have : d ≤ 31 := by have := longN_hi y m; omega
    by_cases g : m' = 14
    · subst g; simp at hq; omega
    · omega
  · rw [hdoy, hmp'.1]; exact hmp'.2
  · rw [hmp'.1]
    by_cases g : m ≤ 2
    · rw [if_pos g] at hm'; rw [if_pos (by omega)]; omega
    · rw [if_neg g] at hm'; rw [if_neg (by omega)]; omega
  · rw [hmp'.1, hyoe, hera]
    by_cases g : m ≤ 2
    · rw [if_pos g] at hm' hy'; rw [if_pos (by omega)]; omega
    · rw [if_neg g] at hm' hy'; rw [if_neg (by omega)]; omega
end Go.Proofs.YtedenojeljjnaaaGreatDoorPi

namespace Go.Proofs.YtedenojeljjnaaaGreatDoorPi
open Go
set_option maxRecDepth 100000
set_option maxHeartbeats 1000000

/-! civil -/
theorem cLeap (n : Nat) (y : Int) : civil_Leap n (y, ()) = some (leapB y, ()) := by
  unfold civil_Leap civil_Leap_px
  have h3 := and_mod (y := y) (k := 2) (by omega)
  have h15 := and_mod (y := y) (k := 4) (by omega)
  simp only [show ((2 ^ 2 - 1 : Nat) : Int) = 3 from rfl, show ((2 ^ 2 : Nat) : Int) = 4 from rfl] at h3
  simp only [show ((2 ^ 4 - 1 : Nat) : Int) = 15 from rfl, show ((2 ^ 4 : Nat) : Int) = 16 from rfl] at h15
  simp only [h3, h15]
  rw [w64_id (x := y % 4) (by omega) (by omega), w64_id (x := y % 16) (by omega) (by omega), cb_eq, cb_ne]
  simp only [tmod_zero]
  unfold leapB
  by_cases h4 : y % 4 = 0
  · rw [if_pos h4]
    by_cases h25 : y % 25 = 0
    · rw [if_pos h25]
      congr 2
      rw [Bool.eq_iff_iff]; simp; omega
    · rw [if_neg h25]
      congr 2
      symm; rw [decide_eq_true_iff]; omega
  · rw [if_neg h4]
    congr 2
    symm; rw [decide_eq_false_iff_not]; omega
theorem cLong (n : Nat) (y m : Int) : civil_Long n (y, (m, ())) = some (longN y m, ()) := by
  unfold civil_Long civil_Long_px
  simp only [cLeap, Option.bind_some, cb_dec, cb_eq, gt_iff_lt]
  unfold longN
  by_cases h1 : m < 1
  · rw [if_pos h1, if_pos (by omega)]
  by_cases h2 : 12 < m
  · rw [if_neg h1, if_pos h2, if_pos (by omega)]
  rw [if_neg h1, if_neg h2, w64_id (x := m - 1) (by omega) (by omega), if_pos (by omega : 0 ≤ m - 1)]
  have : m = 1 ∨ m = 2 ∨ m = 3 ∨ m = 4 ∨ m = 5 ∨ m = 6 ∨ m = 7 ∨ m = 8 ∨ m = 9 ∨ m = 10 ∨ m = 11 ∨ m = 12 := by omega
  cases leapB y <;> rcases this with h | h | h | h | h | h | h | h | h | h | h | h <;> subst h <;> rfl
theorem cRight (n : Nat) (y m d : Int) : civil_Right n (y, (m, (d, ()))) = some (rightB y m d, ()) := by
  unfold civil_Right civil_Right_px
  simp only [cLong, Option.bind_some, cb_dec, ge_iff_le]
  unfold rightB
  by_cases h1 : -9999 ≤ y
  · by_cases h2 : y ≤ 9999
    · by_cases h3 : 1 ≤ d
      · simp only [h1, h2, h3, if_true, true_and]
      · simp only [h1, h2, h3, if_true, if_false, true_and, false_and, decide_false]
    · simp only [h1, h2, if_true, if_false, true_and, false_and, decide_false]
  · simp only [h1, if_false, false_and, decide_false]
theorem cNumber (n : Nat) {y m d : Int} (h1 : 1 ≤ m) (h2 : m ≤ 12) (hy0 : -11000 ≤ y) (hy1 : y ≤ 11000) (hd0 : 0 ≤ d) (hd1 : d ≤ 100) : civil_number n (y, (m, (d, ()))) = some (dayN y m d, ()) := by
  have key : ∀ y' m' : Int, y' = (if m ≤ 2 then y - 1 else y) → m' = (if m ≤ 2 then m + 12 else m) → civil_number_s0 n (y', m', d) = some (dayN y m d, ()) := by
    intro y' m' hy hm
    have e := number_eq (d := d) h1 h2 y' m' hy hm
    have hy2 : -11001 ≤ y' ∧ y' ≤ 11000 := by split at hy <;> omega
    have hm2 : 3 ≤ m' ∧ m' ≤ 14 := by split at hm <;> omega
    unfold civil_number_s0 civil_number_p0
    simp (disch := omega) only [w64_id, Int.tdiv_eq_ediv_of_nonneg]
    exact congrArg (fun v => some (v, ())) e
  unfold civil_number civil_number_px
  simp only [cb_dec]
  by_cases hm : m ≤ 2
  · rw [if_pos hm, w64_id (by omega) (by omega), w64_id (by omega) (by omega)]
    exact key _ _ (by rw [if_pos hm]) (by rw [if_pos hm])
  · rw [if_neg hm]
    exact key _ _ (by rw [if_neg hm]) (by rw [if_neg hm])
theorem cDays (n : Nat) (y m d : Int) : civil_Days n (y, (m, (d, ()))) = some (if rightB y m d = true then (dayN y m d, ((0 : Int), ())) else ((0 : Int), ((6 : Int), ()))) := by
  unfold civil_Days civil_Days_px
  simp only [cRight, Option.bind_some, cb_not]
  cases h : rightB y m d
  · rfl
  · have hr := rightB_iff.1 h
    have hm := rightB_month h
    have := longN_hi y m
    rw [cond_true, cNumber n hm.1 hm.2 (by omega) (by omega) (by omega) (by omega), Option.bind_some, if_pos rfl]
theorem dayN_bd {y m d : Int} (h : rightB y m d = true) : -5000000 ≤ dayN y m d ∧ dayN y m d ≤ 5000000 := by
  have hr := rightB_iff.1 h
  have a := dayN_year h
  have b1 : ydayN y ≥ -4500000 := by unfold ydayN; omega
  have b2 : ydayN (y + 1) ≤ 4500000 := by unfold ydayN; omega
  omega
theorem cDate_ok (n : Nat) {y m d : Int} (h : rightB y m d = true) : civil_Date n (dayN y m d, ()) = some (y, (m, (d, ((0 : Int), ())))) := by
  have hb := dayN_bd h
  have hy := dayN_year h
  have hr := rightB_iff.1 h
  have r1 : dayN (-9999) 1 1 = ydayN (-9999) := by decide
  have r2 : dayN 9999 12 31 = ydayN 10000 - 1 := by decide
  have c1 := ydayN_mono (a := -9999) (b := y) (by omega)
  have c2 := ydayN_mono (a := y + 1) (b := 10000) (by omega)
  unfold civil_Date civil_Date_px
  rw [cNumber n (y := -9999) (m := 1) (d := 1) (by omega) (by omega) (by omega) (by omega) (by omega) (by omega), Option.bind_some]
  simp only [cb_dec, gt_iff_lt]
  rw [if_neg (by rw [r1]; omega), cNumber n (y := 9999) (m := 12) (d := 31) (by omega) (by omega) (by omega) (by omega) (by omega) (by omega), Option.bind_some, if_neg (by rw [r2]; omega)]
  obtain ⟨hbd, e1, e2, e3⟩ := date_eq h _ _ _ _ _ _ rfl rfl rfl rfl rfl rfl
  generalize hz : dayN y m d + 5102378 = z at *
  generalize hera : z / 146097 = era at *
  generalize hdoe : z - era * 146097 = doe at *
  generalize hyoe : gYear doe = yoe at *
  generalize hdoy : doe - (365 * yoe + yoe / 4 - yoe / 100) = doy at *
  generalize hmp : (5 * doy + 2) / 153 = mp at *
  have g := hyoe
  unfold gYear at g
  have w1 : w64 z = z := w64_id (by omega) (by omega)
  have w2 : w64 (Int.tdiv z 146097) = era := by rw [Int.tdiv_eq_ediv_of_nonneg (by omega), w64_id (by omega) (by omega)]; exact hera
  have w3 : w64 (z - w64 (era * 146097)) = doe := by rw [w64_id (x := era * 146097) (by omega) (by omega), w64_id (by omega) (by omega)]; exact hdoe
  have w4 : w64 (Int.tdiv (w64 ((w64 ((w64 (doe - (w64 (Int.tdiv doe (1460 : Int))))) + (w64 (Int.tdiv doe (36524 : Int))))) - (w64 (Int.tdiv doe (146096 : Int))))) (365 : Int)) = yoe := by
    simp (disch := omega) only [w64_id, Int.tdiv_eq_ediv_of_nonneg]
    exact g
  have w5 : w64 (doe - (w64 ((w64 ((w64 (365 * yoe)) + (w64 (Int.tdiv yoe (4 : Int))))) - (w64 (Int.tdiv yoe (100 : Int)))))) = doy := by
    simp (disch := omega) only [w64_id, Int.tdiv_eq_ediv_of_nonneg]
    exact hdoy
  have w6 : w64 (Int.tdiv (w64 ((w64 (5 * doy)) + 2)) (153 : Int)) = mp := by
    simp (disch := omega) only [w64_id, Int.tdiv_eq_ediv_of_nonneg]
    exact hmp
  have w7 : w64 ((w64 (doy - (w64 (Int.tdiv (w64 ((w64 (153 * mp)) + 2)) (5 : Int))))) + 1) = d := by
    simp (disch := omega) only [w64_id, Int.tdiv_eq_ediv_of_nonneg]
    exact e1
  have w8 : w64 ((w64 (yoe + (w64 (era * 400)))) - 12000) = yoe + era * 400 - 12000 := by
    simp (disch := omega) only [w64_id]
  have w9 : w64 (mp + 3) = mp + 3 := w64_id (by omega) (by omega)
  simp only [w1, w2, w3, w4, w5, w6, w7, w8, w9]
  unfold civil_Date_s0 civil_Date_p0
  by_cases hm : 12 < mp + 3
  · rw [if_pos hm] at e2 e3 ⊢
    rw [w64_id (by omega) (by omega), w64_id (by omega) (by omega), e2, e3]
  · rw [if_neg hm] at e2 e3 ⊢
    rw [e2, e3]
theorem cDate_no (n : Nat) {t : Int} (h : t < ydayN (-9999) ∨ ydayN 10000 ≤ t) : civil_Date n (t, ()) = some ((0 : Int), ((0 : Int), ((0 : Int), ((2 : Int), ())))) := by
  have r1 : dayN (-9999) 1 1 = ydayN (-9999) := by decide
  have r2 : dayN 9999 12 31 = ydayN 10000 - 1 := by decide
  unfold civil_Date civil_Date_px
  rw [cNumber n (y := -9999) (m := 1) (d := 1) (by omega) (by omega) (by omega) (by omega) (by omega) (by omega), Option.bind_some]
  simp only [cb_dec, gt_iff_lt]
  by_cases h1 : t < ydayN (-9999)
  · rw [if_pos (by rw [r1]; exact h1)]
  · rw [if_neg (by rw [r1]; exact h1), cNumber n (y := 9999) (m := 12) (d := 31) (by omega) (by omega) (by omega) (by omega) (by omega) (by omega), Option.bind_some, if_pos (by rw [r2]; omega)]
theorem cWeek (n : Nat) (t : Int) : civil_Week n (t, ()) = some ((t + 4) % 7, ()) := by
  unfold civil_Week civil_Week_px civil_Week_s0 civil_Week_p0
  simp only [cb_dec]
  have ht : Int.tmod t 7 = if 0 ≤ t ∨ t % 7 = 0 then t % 7 else t % 7 - 7 := by
    rw [Int.tmod_eq_emod]
    by_cases h : 0 ≤ t ∨ (7 : Int) ∣ t
    · rw [if_pos h, if_pos (by rcases h with h | h
                               · exact .inl h
                               · exact .inr (Int.emod_eq_zero_of_dvd h))]
      omega
    · rw [if_neg h, if_neg (by intro q; apply h; rcases q with q | q
                               · exact .inl q
                               · exact .inr (Int.dvd_of_emod_eq_zero q))]
      omega
  have hs : -7 < Int.tmod t 7 ∧ Int.tmod t 7 < 7 := by rw [ht]; split <;> omega
  generalize Int.tmod t 7 = a at ht hs
  rw [w64_id (x := a + 4) (by omega) (by omega)]
  by_cases h : 0 ≤ a + 4
  · rw [Int.tmod_eq_emod_of_nonneg h, if_neg (by omega)]
    congr 2; split at ht <;> omega
  · have : Int.tmod (a + 4) 7 = a + 4 := by
      rw [Int.tmod_eq_emod, if_neg (by intro q; rcases q with q | q
                                       · exact h q
                                       · have := Int.emod_eq_zero_of_dvd q; omega)]
      omega
    rw [this, if_pos (by omega), w64_id (by omega) (by omega)]
    congr 2; split at ht <;> omega
theorem tdm (t k : Int) (hk : 0 < k) : Int.tdiv t k = (if Int.tmod t k < 0 then t / k + 1 else t / k) ∧ (Int.tmod t k < 0 ↔ t < 0 ∧ t % k ≠ 0) := by
  have e := Int.mul_tdiv_add_tmod t k
  have e2 := Int.mul_ediv_add_emod t k
  have hm := Int.tmod_eq_emod (a := t) (b := k)
  have h0 := Int.emod_nonneg t (show k ≠ 0 by omega)
  have h1 := Int.emod_lt_of_pos t hk
  have hsg : (k.natAbs : Int) = k := by omega
  have c : Int.tmod t k = if 0 ≤ t ∨ k ∣ t then t % k else t % k - k := by
    rw [hm]; split
    · omega
    · rw [hsg]
  by_cases q : 0 ≤ t ∨ k ∣ t
  · rw [if_pos q] at c
    have hn : ¬ Int.tmod t k < 0 := by omega
    refine ⟨?_, ⟨fun h => absurd h hn, fun ⟨a, b⟩ => ?_⟩⟩
    · rw [if_neg hn]
      have : k * Int.tdiv t k = k * (t / k) := by omega
      exact Int.eq_of_mul_eq_mul_left (by omega) this
    · rcases q with q | q
      · omega
      · exact absurd (Int.emod_eq_zero_of_dvd q) b
  · rw [if_neg q] at c
    have hn : Int.tmod t k < 0 := by omega
    refine ⟨?_, ⟨fun _ => ⟨by omega, fun h => q (.inr (Int.dvd_of_emod_eq_zero h))⟩, fun _ => hn⟩⟩
    rw [if_pos hn]
    have : k * Int.tdiv t k = k * (t / k + 1) := by rw [Int.mul_add]; omega
    exact Int.eq_of_mul_eq_mul_left (by omega) this
theorem cClock (n : Nat) {t : Int} (h0 : -9223372036854775808 ≤ t) (h1 : t ≤ 9223372036854775807) : civil_Clock n (t, ()) = some (t / 86400, (t % 86400, ())) := by
  unfold civil_Clock civil_Clock_px civil_Clock_s0 civil_Clock_p0
  obtain ⟨e, _⟩ := tdm t 86400 (by omega)
  simp only [cb_dec]
  rw [e]
  by_cases h : Int.tmod t 86400 < 0
  · rw [if_pos h, if_pos h, w64_id (x := t / 86400 + 1) (by omega) (by omega), show t / 86400 + 1 - 1 = t / 86400 by omega, w64_id (x := t / 86400) (by omega) (by omega)]
    have : w64 (t - w64 (t / 86400 * 86400)) = t % 86400 := by
      by_cases hm : -9223372036854775808 ≤ t / 86400 * 86400
      · rw [w64_id (x := t / 86400 * 86400) hm (by omega), w64_id (by omega) (by omega)]; omega
      · have hw : w64 (t / 86400 * 86400) = t / 86400 * 86400 + 18446744073709551616 := by
          show IntKind.wrap .i64 _ = _
          unfold IntKind.wrap IntKind.bits IntKind.signed
          simp; omega
        rw [hw]
        show IntKind.wrap .i64 _ = _
        unfold IntKind.wrap IntKind.bits IntKind.signed
        simp; omega
    rw [this]
  · rw [if_neg h, if_neg h, w64_id (x := t / 86400) (by omega) (by omega), w64_id (x := t / 86400 * 86400) (by omega) (by omega), w64_id (by omega) (by omega)]
    congr 2
    congr 1
    omega
end Go.Proofs.YtedenojeljjnaaaGreatDoorPi

namespace Go.Proofs.YtedenojeljjnaaaGreatDoorPi
open Go Go.Proofs Go.RowKit
set_option maxRecDepth 100000
set_option maxHeartbeats 1000000
set_option linter.unusedVariables false

theorem w8_id {x : Int} (h0 : 0 ≤ x) (h1 : x < 256) : w8 x = x := by
  show IntKind.wrap .u8 x = x
  unfold IntKind.wrap
  have e1 : IntKind.signed .u8 = false := rfl
  have e2 : IntKind.bits .u8 = 8 := rfl
  simp only [e1, e2, Bool.false_and, Bool.false_eq_true, if_false]
  omega

def lowr (e : Int) : Int := w8 (((BitVec.ofInt (IntKind.bits .u8) e) ||| (BitVec.ofInt (IntKind.bits .u8) (32 : Int))).toNat : Int)
def okc (e : Int) : Bool := (decide (97 ≤ lowr e) && (decide (lowr e ≤ 122) && decide (e < 128))) || ((decide (48 ≤ e) && decide (e ≤ 57)) || ((e == 43) || (e == 45)))

theorem plain_step {n : Nat} {k0 : format_Plain_t0 → format_Plain_R} {r2 : format_Plain_t2 → format_Plain_R} {s : ByteArray} {bs : List Int} {i : Nat} {e : Int} (hi : bs[i]? = some e) (hb : bs.length < 1000000000000) :
    format_Plain_s2 n k0 r2 (s, bs, (bs.length : Int), (i : Int)) = bif okc e then r2 (s, bs, (bs.length : Int), ((i + 1 : Nat) : Int)) else some (false, ()) := by
  have hlt : i < bs.length := (List.getElem?_eq_some_iff.1 hi).1
  have h1 : decide ((i : Int) < (bs.length : Int)) = true := by simp; omega
  have h2 : decide (0 ≤ (i : Int)) = true := by simp
  have h3 : w64 ((i : Int) + 1) = ((i + 1 : Nat) : Int) := by rw [w64_id (by omega) (by omega)]; rfl
  simp only [format_Plain_s2, format_Plain_p2, format_Plain_s3, format_Plain_p3, format_Plain_s4, format_Plain_p4, format_Plain_s5, format_Plain_p5]
  rw [h1, h2, cond_true, cond_true, Int.toNat_natCast, hi, Option.bind_some, h3]
  unfold okc lowr
  generalize decide (97 ≤ w8 _) = c1
  generalize decide (w8 _ ≤ 122) = c2
  generalize decide (e < 128) = c3
  generalize decide (48 ≤ e) = c4
  generalize decide (e ≤ 57) = c5
  generalize (e == 43) = c6
  generalize (e == 45) = c7
  cases c1 <;> cases c2 <;> cases c3 <;> cases c4 <;> cases c5 <;> cases c6 <;> cases c7 <;> rfl

theorem plain_fin (n : Nat) (s : ByteArray) : format_Plain_s0 n s = some (decide (3 ≤ s.size ∧ s.size ≤ 6), ()) := by
  simp only [format_Plain_s0, format_Plain_p0]
  by_cases h3 : 3 ≤ s.size
  · have : decide ((s.size : Int) ≥ 3) = true := by simp; omega
    rw [this, cond_true]
    congr 2
    apply decide_eq_decide.2
    omega
  · have : decide ((s.size : Int) ≥ 3) = false := by simp; omega
    rw [this, cond_false]
    congr 2
    symm
    simp; omega

theorem plain_end {n : Nat} {k0 : format_Plain_t0 → format_Plain_R} {r2 : format_Plain_t2 → format_Plain_R} {s : ByteArray} {bs : List Int} {i : Nat} (hi : bs.length ≤ i) :
    format_Plain_s2 n k0 r2 (s, bs, (bs.length : Int), (i : Int)) = k0 s := by
  have h1 : decide ((i : Int) < (bs.length : Int)) = false := by simp; omega
  simp only [format_Plain_s2, format_Plain_p2]
  rw [h1, cond_false]

def plainB (s : ByteArray) : Bool := (bytesOf s).all okc && decide (3 ≤ s.size ∧ s.size ≤ 6)

theorem plain_loop {n : Nat} {s : ByteArray} {bs : List Int} (hb : bs.length < 1000000000000) : ∀ (k : Nat) (i : Nat), i ≤ bs.length → bs.length < k + i →
    rounds (fun r2 x' => format_Plain_s2 n (format_Plain_s0 n) r2 x') k (s, bs, (bs.length : Int), (i : Int)) = some ((bs.drop i).all okc && decide (3 ≤ s.size ∧ s.size ≤ 6), ())
  | 0, i, h0, h => by omega
  | k + 1, i, h0, h => by
    show format_Plain_s2 n (format_Plain_s0 n) (rounds (fun r2 x' => format_Plain_s2 n (format_Plain_s0 n) r2 x') k) (s, bs, (bs.length : Int), (i : Int)) = _
    by_cases hi : i < bs.length
    · rw [plain_step (List.getElem?_eq_getElem hi) hb, plain_loop hb k (i + 1) (by omega) (by omega)]
      rw [List.drop_eq_getElem_cons hi, List.all_cons]
      cases okc bs[i] <;> rfl
    · rw [plain_end (by omega), plain_fin, List.drop_eq_nil_of_le (by omega)]
      rfl

theorem plain_val {n : Nat} {s : ByteArray} (hs : s.size < n) (hb : s.size < 1000000000000) : format_Plain n (s, ()) = some (plainB s, ()) := by
  have hl := bytesOf_length s
  show rounds (fun r2 x' => format_Plain_s2 n (format_Plain_s0 n) r2 x') n (s, bytesOf s, ((bytesOf s).length : Int), ((0 : Nat) : Int)) = _
  rw [plain_loop (by omega) n 0 (by omega) (by omega)]
  rfl
end Go.Proofs.YtedenojeljjnaaaGreatDoorPi
