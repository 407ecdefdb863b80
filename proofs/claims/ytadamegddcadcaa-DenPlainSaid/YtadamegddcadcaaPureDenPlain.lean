import Derived.Test.YtadamegddcadcaaPDenx18
import Derived.KernelRfl
namespace Go.Proofs.Ytadamegddcadcaa.Pure
open Go.RowKit Go.Proofs.Ytadamegddcadcaa.PDen Go.Proofs.YtadamegddcadcaaW.PrintWords Go.Proofs.YtadamegddcadcaaW.PrintLast
theorem alive_true : noonmarklaw15_alive.f 60 = some true := by kernel_rfl
def e (off kind save : Int) : S48 := ⟨off, kind, save, ⟨#[]⟩, ⟨#[88]⟩, ⟨false, 0, 0, ⟨0, 0, 0⟩, ⟨0, 0⟩⟩⟩
theorem rules (n : Nat) : api_Rule_33.f (n+1) [] = some false := by
  simp [api_Rule_33.f, api_Rule_51.f, api_Rule_51.l0]
theorem wrap_lit (z : Int) (h : -9223372036854775808 ≤ z ∧ z < 9223372036854775808) : wrap64 z = z := by
  unfold wrap64; omega
theorem within (a m : Int) (h : 0 ≤ m ∧ m < 1000000) : den_within.f a m = some (decide (-m ≤ a ∧ a ≤ m)) := by
  rw [den_within.f, wrap_lit (-m) (by omega)]
  by_cases h1 : -m ≤ a <;> simp [h1]
theorem fits (n : Nat) (off kind save : Int) (hk : kind = 0 ∨ kind = 1) (x y : ByteArray) :
    den_fits.f (n+2) off kind save x y false 0 0 0 0 0 0 0 [] = some (decide (-86400 ≤ off ∧ off ≤ 86400 ∧ (kind = 1 → -86400 ≤ save ∧ save ≤ 86400))) := by
  have a := within off 86400 (by omega)
  have b := within save 86400 (by omega)
  by_cases h1 : -86400 ≤ off ∧ off ≤ 86400 <;> by_cases h2 : -86400 ≤ save ∧ save ≤ 86400 <;>
  rcases hk with rfl | rfl <;>
  simp [den_fits.f, a, b, den_fits.j0, rules, h1, h2]
theorem right (n : Nat) (off kind save : Int) (hk : kind = 0 ∨ kind = 1) :
    den_Right.f (n+9) [e off kind save] [[]] = some (if (-86400 ≤ off ∧ off ≤ 86400 ∧ (kind = 1 → -86400 ≤ save ∧ save ≤ 86400)) then 0 else 1) := by
  have a := fits (n+5) off kind save hk ⟨#[]⟩ ⟨#[88]⟩
  have w1 := wrap_lit 1 (by omega)
  have w2 := wrap_lit (-1) (by omega)
  have w3 := wrap_lit 0 (by omega)
  generalize hp : decide (-86400 ≤ off ∧ off ≤ 86400 ∧ (kind = 1 → -86400 ≤ save ∧ save ≤ 86400)) = p at a
  have hq : (if (-86400 ≤ off ∧ off ≤ 86400 ∧ (kind = 1 → -86400 ≤ save ∧ save ≤ 86400)) then (0 : Int) else 1) = if p = true then 0 else 1 := by
    rw [← hp]; simp only [decide_eq_true_eq]
  rw [hq]; clear hq hp
  cases p <;>
  simp [den_Right.f, den_Right.j0, den_Right.l0, den_Right.l1, den_Right.l2, rd_T48, rd_L10, e, a, w1, w2, w3, mx]
theorem date_total (n : Nat) (x : Int) : ∃ p, civil_Date.f (n+2) x = some p := by
  unfold civil_Date.f
  have j : ∀ b, ∃ p, civil_Date.j0 (n+2) x b = some p := by
    intro b; rw [civil_Date.j0]; repeat' split
    all_goals exact ⟨_, rfl⟩
  unfold civil_number.f
  simp only [show ¬ ((12:Int) ≤ 2) by omega, show ((1:Int) ≤ 2) by omega, if_true, if_false, Option.bind_some]
  split
  · exact j _
  · exact j _
theorem year_total (n : Nat) (x : Int) : ∃ p, den_year.f (n+2) x = some p := by
  unfold den_year.f
  have c : ∃ p, civil_Clock.f x = some p := by unfold civil_Clock.f; split <;> exact ⟨_, rfl⟩
  obtain ⟨p, c⟩ := c
  obtain ⟨q, d⟩ := date_total n p.1
  rw [c, Option.bind_some, d, Option.bind_some]
  split <;> exact ⟨_, rfl⟩
theorem saving (n : Nat) (off kind save t : Int) (hk : kind = 0 ∨ kind = 1) :
    den_Zone_saving.f n [e off kind save] [[]] 0 t = some (if kind = 1 then save else 0, ⟨#[]⟩) := by
  rcases hk with rfl | rfl <;> simp [den_Zone_saving.f, rd_T48, e]
theorem at_ (n : Nat) (off kind save t : Int) (hk : kind = 0 ∨ kind = 1) :
    den_At.f (n+9) [e off kind save] [[]] t = (if (-86400 ≤ off ∧ off ≤ 86400 ∧ (kind = 1 → -86400 ≤ save ∧ save ≤ 86400)) then some (0, if kind = 1 then save else 0, ⟨#[]⟩, 0) else some (0, 0, ⟨#[]⟩, 1)) ∨
    ((-86400 ≤ off ∧ off ≤ 86400 ∧ (kind = 1 → -86400 ≤ save ∧ save ≤ 86400)) ∧ den_At.f (n+9) [e off kind save] [[]] t = some (0, 0, ⟨#[]⟩, 2)) := by
  obtain ⟨p, hp⟩ := year_total (n+7) t
  have r := right n off kind save hk
  have w3 := wrap_lit 0 (by omega)
  unfold den_At.f
  rw [r, Option.bind_some, hp, Option.bind_some]
  by_cases h : (-86400 ≤ off ∧ off ≤ 86400 ∧ (kind = 1 → -86400 ≤ save ∧ save ≤ 86400))
  · rw [if_pos h, if_pos h, if_pos rfl]
    cases p.2
    · right; exact ⟨h, rfl⟩
    · left
      simp [den_At.l0, saving _ off kind save t hk, w3]
  · left
    rw [if_neg h, if_neg h, if_neg (by omega)]
theorem DenPlain : noonmarklaw15_DenPlain.Pure := by
  intro a0 a1 a2 a3 _ _ _
  refine ⟨62, ?_⟩
  have A := alive_true
  unfold noonmarklaw15_DenPlain.f
  cases a3
  · rw [if_neg (by simp)]
    have h := at_ 52 a0 0 a1 a2 (Or.inl rfl)
    unfold e at h
    by_cases h1 : a0 < -86400
    · have hn : ¬(-86400 ≤ a0 ∧ a0 ≤ 86400 ∧ ((0:Int) = 1 → -86400 ≤ a1 ∧ a1 ≤ 86400)) := by omega
      rw [if_neg hn] at h
      rcases h with h | ⟨h, _⟩
      · simp [noonmarklaw15_DenPlain.j0, noonmarklaw15_DenPlain.j1, h, h1, A]
      · exact absurd h hn
    · by_cases h2 : a0 > 86400
      · have hn : ¬(-86400 ≤ a0 ∧ a0 ≤ 86400 ∧ ((0:Int) = 1 → -86400 ≤ a1 ∧ a1 ≤ 86400)) := by omega
        rw [if_neg hn] at h
        rcases h with h | ⟨h, _⟩
        · simp [noonmarklaw15_DenPlain.j0, noonmarklaw15_DenPlain.j1, h, h1, h2, A]
        · exact absurd h hn
      · have hn : (-86400 ≤ a0 ∧ a0 ≤ 86400 ∧ ((0:Int) = 1 → -86400 ≤ a1 ∧ a1 ≤ 86400)) := by omega
        rw [if_pos hn] at h
        rcases h with h | ⟨_, h⟩
        · simp [noonmarklaw15_DenPlain.j0, noonmarklaw15_DenPlain.j1, h, h1, h2, A]
        · simp [noonmarklaw15_DenPlain.j0, noonmarklaw15_DenPlain.j1, h, h1, h2, A]
  · rw [if_pos rfl]
    have h := at_ 52 a0 1 a1 a2 (Or.inr rfl)
    unfold e at h
    by_cases hn : (-86400 ≤ a0 ∧ a0 ≤ 86400 ∧ ((1:Int) = 1 → -86400 ≤ a1 ∧ a1 ≤ 86400))
    · rw [if_pos hn] at h
      have h1 : ¬ a0 < -86400 := by omega
      have h2 : ¬ a0 > 86400 := by omega
      have h3 : ¬ a1 < -86400 := by omega
      have h4 : ¬ a1 > 86400 := by omega
      rcases h with h | ⟨_, h⟩
      · simp [noonmarklaw15_DenPlain.j0, noonmarklaw15_DenPlain.j1, h, h1, h2, h3, h4, A]
      · simp [noonmarklaw15_DenPlain.j0, noonmarklaw15_DenPlain.j1, h, h1, h2, h3, h4, A]
    · rw [if_neg hn] at h
      rcases h with h | ⟨h, _⟩
      · by_cases h1 : a0 < -86400 <;> by_cases h2 : a0 > 86400 <;> by_cases h3 : a1 < -86400 <;> by_cases h4 : a1 > 86400 <;>
          first | (exfalso; omega) | simp [noonmarklaw15_DenPlain.j0, noonmarklaw15_DenPlain.j1, h, h1, h2, h3, h4, A]
      · exact absurd h hn
end Go.Proofs.Ytadamegddcadcaa.Pure
