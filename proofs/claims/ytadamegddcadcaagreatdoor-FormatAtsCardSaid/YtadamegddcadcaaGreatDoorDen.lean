import Derived.Test.YtadamegddcadcaaGreatDoorCal
import Derived.KernelRfl
set_option linter.unusedVariables false
namespace Go.Proofs.YtadamegddcadcaaGreatDoorPi
open Go
set_option maxRecDepth 100000
set_option maxHeartbeats 1000000
set_option linter.unusedVariables false

theorem imin_or (x y : Int) : (imin x y = x ∧ x ≤ y) ∨ (imin x y = y ∧ y ≤ x) := by
  unfold imin; split
  · exact .inr ⟨rfl, by omega⟩
  · exact .inl ⟨rfl, by omega⟩
theorem imax_or (x y : Int) : (imax x y = x ∧ y ≤ x) ∨ (imax x y = y ∧ x ≤ y) := by
  unfold imax; split
  · exact .inr ⟨rfl, by omega⟩
  · exact .inl ⟨rfl, by omega⟩

/-- A rule's numbers are small. -/
def RuleB (r : D_api_Rule) : Prop := -700000 ≤ r.2.2.2.2.2.1.1 ∧ r.2.2.2.2.2.1.1 ≤ 700000 ∧ -100000 ≤ r.2.2.2.2.2.2.1 ∧ r.2.2.2.2.2.2.1 ≤ 100000 ∧ -20000 ≤ r.2.1 ∧ r.2.1 ≤ 20000 ∧ -20000 ≤ r.2.2.1 ∧ r.2.2.1 ≤ 20000 ∧ r.2.2.2.2.2.2.2.1.size ≤ 50
def RulesB (l : List D_api_Rule) : Prop := l.length ≤ 24 ∧ ∀ r, r ∈ l → RuleB r

/-! the program's expansion answers -/
theorem eFirst (n : Nat) (r : D_api_Rule) : Elfirst n (r, ()) = some (imax r.2.1 1, ()) := rfl
theorem eLast (n : Nat) (r : D_api_Rule) : Ellast n (r, ()) = some (imin r.2.2.1 9999, ()) := rfl
theorem eFire (n : Nat) (r : D_api_Rule) (i y : Int) : Ok (Elfire n (r, (i, (y, ())))) (fun v => v.2.1 = true → v.1.1 = i ∧ v.1.2.1 = y) := by
  unfold Elfire Elfire_px
  simp only [eFirst, eLast, Option.bind_some, dOf]
  exact Ok.dec (fun _ => Ok.ret (by simp)) (fun _ => Ok.dec (fun _ => Ok.ret (by simp)) (fun _ => Ok.ret (by simp)))
theorem eAhead {n : Nat} (hn : 1000000 ≤ n) {r : D_api_Rule} (hr : RuleB r) {i y : Int} (h0 : -30000 ≤ y) (h1 : y ≤ 30000) : Ok (Elahead n (r, (i, (y, ())))) (fun _ => True) := by
  unfold Elahead Elahead_px
  simp only [eLast, Option.bind_some]
  obtain ⟨_, _, _, _, a1, a2, a3, a4⟩ := hr
  rw [w64_id (x := y - 1) (by omega) (by omega)]
  have m1 := imin_or r.2.2.1 9999
  have m2 := imin_or (y - 1) (imin r.2.2.1 9999)
  generalize imin (y - 1) (imin r.2.2.1 9999) = f at *
  unfold Elahead_s1
  refine rounds_ok (fun z => ∃ k : Int, z = (i, (r, ()), f, f - k, r, ((0 : Int), ((0 : Int), ((0 : Int), ((0 : Int), ()))))) ∧ 0 ≤ k ∧ k ≤ 9) (fun z => (z.2.2.2.1 - (f - 9)).toNat) ?_ n _ ⟨0, by simp, by omega, by omega⟩ (by show (f - (f - 9)).toNat < n; omega)
  rintro rec z ⟨k, rfl, k0, k1⟩ ih
  simp only [Elahead_s2, Elahead_p2, Elahead_s0, Elahead_p0, eFirst, Option.bind_some]
  refine Ok.dec (fun _ => Ok.dec (fun h => ?_) (fun _ => Ok.ret trivial)) (fun _ => Ok.ret trivial)
  rw [w64_id (by omega) (by omega)] at h
  refine Ok.bind (eFire n r i (f - k)) fun v _ => Ok.bif (fun _ => Ok.ret trivial) fun _ => ?_
  rw [w64_id (by omega) (by omega)]
  exact ih _ ⟨k + 1, by rw [show f - k - 1 = f - (k + 1) by omega], by omega, by omega⟩ (by show (f - k - 1 - (f - 9)).toNat < (f - k - (f - 9)).toNat; omega)
theorem eSaved {n : Nat} (hn : 1000000 ≤ n) {l : List D_api_Rule} (hl : RulesB l) {y : Int} (h0 : -30000 ≤ y) (h1 : y ≤ 30000) : Ok (Esaved n (l, (y, ()))) (fun _ => True) := by
  unfold Esaved Esaved_px Esaved_s1
  obtain ⟨hlen, hall⟩ := hl
  refine rounds_ok (fun z => ∃ (s i : Int) (b : Bool) (f : D_EFire), z = (y, s, b, l, (l.length : Int), i, f) ∧ 0 ≤ i ∧ i ≤ (l.length : Int)) (fun z => ((l.length : Int) - z.2.2.2.2.2.1).toNat) ?_ n _ ⟨0, 0, false, _, rfl, by omega, by omega⟩ (by show ((l.length : Int) - 0).toNat < n; omega)
  rintro rec z ⟨s, i, b, f, rfl, i0, i1⟩ ih
  simp only [Esaved_s2, Esaved_p2, Esaved_s3, Esaved_p3, Esaved_s4, Esaved_p4, Esaved_s0, Esaved_p0]
  have next : ∀ s' b' f', Ok (rec (y, s', b', l, (l.length : Int), w64 (i + 1), f')) (fun _ => True) ∨ ¬ i < (l.length : Int) := fun s' b' f' => by
    by_cases h : i < (l.length : Int)
    · left
      rw [w64_id (by omega) (by omega)]
      exact ih _ ⟨s', i + 1, b', f', rfl, by omega, by omega⟩ (by show ((l.length : Int) - (i + 1)).toNat < ((l.length : Int) - i).toNat; omega)
    · exact .inr h
  refine Ok.dec (fun hi => ?_) (fun _ => Ok.ret trivial)
  have next : ∀ s' b' f', Ok (rec (y, s', b', l, (l.length : Int), w64 (i + 1), f')) (fun _ => True) := fun s' b' f' => (next s' b' f').resolve_right (fun h => h hi)
  refine Ok.dec (fun _ => ?_) (fun h => absurd i0 h)
  refine Ok.bind (Ok.get i0 hi) fun e he => ?_
  refine Ok.bind (eAhead hn (hall e he.1) h0 h1) fun v _ => ?_
  refine Ok.bif (fun _ => ?_) (fun _ => next _ _ _)
  refine Ok.bif (fun _ => next _ _ _) (fun _ => ?_)
  rw [cOrder n (by omega), Option.bind_some]
  exact Ok.bif (fun _ => next _ _ _) (fun _ => next _ _ _)

/-- Fires whose rules are there. -/
def FiresB (l : List D_api_Rule) (fs : List D_EFire) : Prop := ∀ f, f ∈ fs → 0 ≤ f.1 ∧ f.1 < (l.length : Int)
theorem sortFire_eq (n : Nat) {fs : List D_EFire} (h : fs.length < 1000000) (u : Unit × Unit) : sortFireF n fs u = some (sortL fireCmp fs) := by
  unfold sortFireF; rw [if_pos (by omega)]
theorem eFrom {n : Nat} (hn : 1000000 ≤ n) {l : List D_api_Rule} (hl : RulesB l) {a b : Int} (h0 : -30000 ≤ a) (h1 : a ≤ 30000) (h2 : -30000 ≤ b) (h3 : b ≤ 30000) : Ok (EFrom n (l, (a, (b, ())))) (fun v => FiresB l v.1 ∧ v.1.length < 1000000) := by
  unfold EFrom EFrom_px EFrom_s1
  obtain ⟨hlen, hall⟩ := hl
  have m1 := imax_or a 1
  have m2 := imin_or b 9999
  simp only
  generalize imax a 1 = lo at *
  generalize imin b 9999 = hi at *
  -- the last loop
  have last : ∀ (s : Int) (fs : List D_EFire), FiresB l fs → fs.length < 1000000 → n ≥ 0 → ∀ m : Nat, fs.length < m → Ok (rounds (fun r8 x' => EFrom_s8 n (EFrom_s5 n) r8 x') m (l, s, (fs.length : Int), (0 : Int), fs)) (fun v => FiresB l v.1 ∧ v.1.length < 1000000) := by
    intro s fs hf hfl _ m hm
    refine rounds_ok (fun z => ∃ (s i : Int) (gs : List D_EFire), z = (l, s, (fs.length : Int), i, gs) ∧ gs.length = fs.length ∧ FiresB l gs ∧ 0 ≤ i ∧ i ≤ (fs.length : Int)) (fun z => ((fs.length : Int) - z.2.2.2.1).toNat) ?_ m _ ⟨s, 0, fs, rfl, rfl, hf, by omega, by omega⟩ (by show ((fs.length : Int) - 0).toNat < m; omega)
    rintro rec z ⟨s, i, gs, rfl, hg, hgf, i0, i1⟩ ih
    simp only [EFrom_s8, EFrom_p8, EFrom_s5, EFrom_p5]
    refine Ok.dec (fun hi => ?_) (fun _ => Ok.ret ⟨hgf, by show gs.length < 1000000; omega⟩)
    refine Ok.dec (fun hc => ?_) (fun hc => absurd ⟨i0, by rw [hg]; exact hi⟩ hc)
    refine Ok.bind (Ok.get i0 (by rw [hg]; exact hi)) fun e he => ?_
    have hb := hgf e he.1
    refine Ok.dec (fun _ => ?_) (fun h => absurd hb.1 h)
    refine Ok.bind (Ok.get hb.1 hb.2) fun r hr => ?_
    refine Ok.dec (fun hc => ?_) (fun hc => absurd ⟨i0, by rw [hg]; exact hi⟩ hc)
    refine Ok.bind (Ok.get i0 (by rw [hg]; exact hi)) fun e' he' => ?_
    rw [w64_id (by omega) (by omega)]
    refine ih _ ⟨_, i + 1, _, rfl, by rw [List.length_set]; exact hg, fun f hf => ?_, by omega, by omega⟩ (by show ((fs.length : Int) - (i + 1)).toNat < ((fs.length : Int) - i).toNat; omega)
    rcases List.mem_or_eq_of_mem_set hf with h | h
    · exact hgf f h
    · rw [h]; exact hgf e' he'.1
  -- behind the loops over rules and years
  have done : ∀ fs : List D_EFire, FiresB l fs → fs.length < 1000000 → Ok (EFrom_s0 n (l, lo, fs)) (fun v => FiresB l v.1 ∧ v.1.length < 1000000) := by
    intro fs hf hfl
    simp only [EFrom_s0, EFrom_p0]
    rw [sortFire_eq n hfl, Option.bind_some]
    refine Ok.bind (eSaved hn ⟨hlen, hall⟩ (by omega) (by omega)) fun v _ => ?_
    have hp := (sortL_spec fireCmp fireSWO fs).1
    refine last v.1 _ (fun f h => hf f (hp.mem_iff.1 h)) (by rw [hp.length_eq]; exact hfl) (by omega) n (by rw [hp.length_eq]; omega)
  refine rounds_ok (fun z => ∃ (i : Int) (fs : List D_EFire), z = (l, lo, hi, l, (l.length : Int), i, fs) ∧ FiresB l fs ∧ (fs.length : Int) ≤ 30000 * i ∧ 0 ≤ i ∧ i ≤ (l.length : Int)) (fun z => ((l.length : Int) - z.2.2.2.2.2.1).toNat) ?_ n _ ⟨0, [], rfl, fun f h => by (cases h), by simp, by omega, by omega⟩ (by show ((l.length : Int) - 0).toNat < n; omega)
  rintro rec z ⟨i, fs, rfl, hf, hfl, i0, i1⟩ ih
  simp only [EFrom_s2, EFrom_p2]
  refine Ok.dec (fun hi' => ?_) (fun _ => done fs hf (by omega))
  refine Ok.dec (fun _ => ?_) (fun h => absurd i0 h)
  refine Ok.bind (Ok.get i0 hi') fun r hr => ?_
  have hrb := hall r hr.1
  rw [eFirst, Option.bind_some]
  obtain ⟨_, _, _, _, a1, a2, a3, a4⟩ := hrb
  have m3 := imax_or r.2.1 1
  have m4 := imax_or lo (imax r.2.1 1)
  generalize imax lo (imax r.2.1 1) = y0 at *
  unfold EFrom_s4
  refine rounds_ok (fun z => ∃ (y : Int) (gs : List D_EFire), z = (l, lo, hi, i, y, l, (l.length : Int), i, gs, r, r) ∧ FiresB l gs ∧ (gs.length : Int) ≤ 30000 * i + (y - y0) ∧ y0 ≤ y ∧ (y ≤ y0 ∨ y ≤ 10000)) (fun z => (10000 - z.2.2.2.2.1).toNat) ?_ n _ ⟨y0, fs, rfl, hf, by omega, by omega, by omega⟩ (by show (10000 - y0).toNat < n; omega)
  rintro rec2 z ⟨y, gs, rfl, hg, hgl, hy0, hy1⟩ ih2
  simp only [EFrom_s7, EFrom_p7, EFrom_s9, EFrom_p9, eLast, Option.bind_some]
  have m5 := imin_or r.2.2.1 9999
  have m6 := imin_or hi (imin r.2.2.1 9999)
  refine Ok.dec (fun hy => ?_) (fun _ => ?_)
  · have hy9 : y ≤ 9999 := by omega
    refine Ok.bind (eFire n r i y) fun v hv => ?_
    have next : ∀ gs', FiresB l gs' → (gs'.length : Int) ≤ 30000 * i + (y + 1 - y0) → Ok (rec2 (l, lo, hi, i, w64 (y + 1), l, (l.length : Int), i, gs', r, r)) (fun v => FiresB l v.1 ∧ v.1.length < 1000000) := fun gs' h h' => by
      rw [w64_id (by omega) (by omega)]
      exact ih2 _ ⟨y + 1, gs', rfl, h, h', by omega, by omega⟩ (by show (10000 - (y + 1)).toNat < (10000 - y).toNat; omega)
    refine Ok.bif (fun hb => ?_) (fun _ => next gs hg (by omega))
    refine Ok.dec (fun _ => next _ (fun f hf => ?_) ?_) (fun h => absurd ?_ h)
    · rcases List.mem_append.1 hf with h | h
      · exact hg f h
      · rw [List.mem_singleton.1 h, (hv hb).1]; exact ⟨i0, hi'⟩
    · simp only [List.length_append, List.length_cons, List.length_nil]; omega
    · simp only [List.length_cons, List.length_nil]; omega
  · simp only [EFrom_s3, EFrom_p3]
    rw [w64_id (by omega) (by omega)]
    refine ih _ ⟨i + 1, gs, rfl, hg, by omega, by omega, by omega⟩ (by show ((l.length : Int) - (i + 1)).toNat < ((l.length : Int) - i).toNat; omega)
end Go.Proofs.YtadamegddcadcaaGreatDoorPi

namespace Go.Proofs.YtadamegddcadcaaGreatDoorPi
open Go
set_option maxRecDepth 100000
set_option maxHeartbeats 1000000
set_option linter.unusedVariables false

theorem eInstant (n : Nat) (l : List D_api_Rule) (f : D_EFire) (off : Int) : Ok (EInstant n (l, (f, (off, ())))) (fun _ => True) := by
  unfold EInstant EInstant_px
  simp only [EInstant_s0, EInstant_p0]
  refine Ok.dec (fun _ => Ok.ret trivial) (fun h0 => Ok.dec (fun _ => Ok.ret trivial) (fun h1 => Ok.dec (fun _ => ?_) (fun h => absurd (Int.not_lt.1 h0) h)))
  refine Ok.bind (Ok.get (Int.not_lt.1 h0) (by omega)) fun e _ => ?_
  exact Ok.bif (fun _ => Ok.ret trivial) (fun _ => Ok.bif (fun _ => Ok.ret trivial) (fun _ => Ok.ret trivial))
theorem eSpan {n : Nat} (hn : 1000000 ≤ n) {l : List D_api_Rule} (hl : RulesB l) : Ok (ESpan n (l, ())) (fun v => -20000 ≤ v.1 ∧ v.1 ≤ 20000 ∧ -20000 ≤ v.2.1 ∧ v.2.1 ≤ 20000) := by
  unfold ESpan ESpan_px ESpan_s1
  obtain ⟨hlen, hall⟩ := hl
  refine rounds_ok (fun z => ∃ (a b i : Int) (c : Bool), z = (a, b, c, l, (l.length : Int), i) ∧ 0 ≤ i ∧ i ≤ (l.length : Int) ∧ -20000 ≤ a ∧ a ≤ 20000 ∧ -20000 ≤ b ∧ b ≤ 20000) (fun z => ((l.length : Int) - z.2.2.2.2.2).toNat) ?_ n _ ⟨0, 0, 0, false, rfl, by omega, by omega, by omega, by omega, by omega, by omega⟩ (by show ((l.length : Int) - 0).toNat < n; omega)
  rintro rec z ⟨a, b, i, c, rfl, i0, i1, b1, b2, b3, b4⟩ ih
  simp only [ESpan_s2, ESpan_p2, ESpan_s3, ESpan_p3, ESpan_s4, ESpan_p4, ESpan_s5, ESpan_p5, ESpan_s0, ESpan_p0]
  refine Ok.dec (fun hi => ?_) (fun _ => Ok.ret ⟨b1, b2, b3, b4⟩)
  refine Ok.dec (fun _ => ?_) (fun h => absurd i0 h)
  refine Ok.bind (Ok.get i0 hi) fun r hr => ?_
  obtain ⟨_, _, _, _, a1, a2, a3, a4⟩ := hall r hr.1
  rw [w64_id (x := i + 1) (by omega) (by omega)]
  have next : ∀ x y c', -20000 ≤ x → x ≤ 20000 → -20000 ≤ y → y ≤ 20000 → Ok (rec (x, y, c', l, (l.length : Int), i + 1)) (fun v => -20000 ≤ v.1 ∧ v.1 ≤ 20000 ∧ -20000 ≤ v.2.1 ∧ v.2.1 ≤ 20000) := fun x y c' h1 h2 h3 h4 =>
    ih _ ⟨x, y, i + 1, c', rfl, by omega, by omega, h1, h2, h3, h4⟩ (by show ((l.length : Int) - (i + 1)).toNat < ((l.length : Int) - i).toNat; omega)
  have key : ∀ e c', -20000 ≤ e → e ≤ 20000 → Ok (bif (i == 0) then rec (imin r.2.1 r.2.1, imax (imax e r.2.1) e, c', l, (l.length : Int), i + 1) else rec (imin a r.2.1, imax b e, c', l, (l.length : Int), i + 1)) (fun v => -20000 ≤ v.1 ∧ v.1 ≤ 20000 ∧ -20000 ≤ v.2.1 ∧ v.2.1 ≤ 20000) := fun e c' h1 h2 => by
    have q1 := imin_or r.2.1 r.2.1
    have q2 := imin_or a r.2.1
    have q3 := imax_or e r.2.1
    have q4 := imax_or (imax e r.2.1) e
    have q5 := imax_or b e
    exact Ok.bif (fun _ => next _ _ _ (by omega) (by omega) (by omega) (by omega)) (fun _ => next _ _ _ (by omega) (by omega) (by omega) (by omega))
  exact Ok.bif (fun _ => key _ _ a1 a2) (fun _ => key _ _ a3 a4.1)
theorem eLetter {n : Nat} (hn : 1000000 ≤ n) {l : List D_api_Rule} (hl : RulesB l) : Ok (ELetter n (l, ())) (fun v => v.1.size ≤ 50) := by
  unfold ELetter ELetter_px ELetter_s1
  obtain ⟨hlen, hall⟩ := hl
  have fin : ∀ best : Option D_EFire, (∀ f, best = some f → 0 ≤ f.1 ∧ f.1 < (l.length : Int)) → Ok (ELetter_s0 n (l, best)) (fun v => v.1.size ≤ 50) := by
    intro best hb
    simp only [ELetter_s0, ELetter_p0]
    cases best with
    | none => exact Ok.ret (Nat.zero_le _)
    | some f =>
      simp only [Option.isNone_some, cond_false, Option.bind_some]
      obtain ⟨h0, h1⟩ := hb f rfl
      exact Ok.dec (fun _ => Ok.bind (Ok.get h0 h1) fun e he => Ok.ret (hall e he.1).2.2.2.2.2.2.2.2) (fun h => absurd h0 h)
  refine rounds_ok (fun z => ∃ (best : Option D_EFire) (i : Int), z = (l, best, l, (l.length : Int), i) ∧ (∀ f, best = some f → 0 ≤ f.1 ∧ f.1 < (l.length : Int)) ∧ 0 ≤ i ∧ i ≤ (l.length : Int)) (fun z => ((l.length : Int) - z.2.2.2.2).toNat) ?_ n _ ⟨none, 0, rfl, fun f h => by (cases h), by omega, by omega⟩ (by show ((l.length : Int) - 0).toNat < n; omega)
  rintro rec z ⟨best, i, rfl, hb, i0, i1⟩ ih
  simp only [ELetter_s2, ELetter_p2]
  refine Ok.dec (fun hi => ?_) (fun _ => fin best hb)
  refine Ok.dec (fun _ => ?_) (fun h => absurd i0 h)
  refine Ok.bind (Ok.get i0 hi) fun r hr => ?_
  obtain ⟨_, _, _, _, a1, a2, a3, a4⟩ := hall r hr.1
  rw [eFirst, Option.bind_some]
  have next : ∀ b' : Option D_EFire, (∀ f, b' = some f → 0 ≤ f.1 ∧ f.1 < (l.length : Int)) → Ok (ELetter_s3 n (ELetter_s0 n) rec (l, b', l, (l.length : Int), i)) (fun v => v.1.size ≤ 50) := fun b' h => by
    simp only [ELetter_s3, ELetter_p3]
    rw [w64_id (by omega) (by omega)]
    exact ih _ ⟨b', i + 1, rfl, h, by omega, by omega⟩ (by show ((l.length : Int) - (i + 1)).toNat < ((l.length : Int) - i).toNat; omega)
  have m1 := imax_or r.2.1 1
  unfold ELetter_s4
  refine rounds_ok (fun z => ∃ k : Int, z = (l, best, i, imax r.2.1 1 + k, l, (l.length : Int), i, r, r) ∧ 0 ≤ k ∧ k ≤ 9) (fun z => (imax r.2.1 1 + 9 - z.2.2.2.1).toNat) ?_ n _ ⟨0, by simp, by omega, by omega⟩ (by show (imax r.2.1 1 + 9 - imax r.2.1 1).toNat < n; omega)
  rintro rec2 z ⟨k, rfl, k0, k1⟩ ih2
  simp only [ELetter_s5, ELetter_p5, eFirst, eLast, Option.bind_some]
  rw [w64_id (x := imax r.2.1 1 + 8) (by omega) (by omega), w64_id (x := imax r.2.1 1 + k + 1) (by omega) (by omega)]
  have m2 := imin_or (imin r.2.2.1 9999) (imax r.2.1 1 + 8)
  refine Ok.dec (fun hk => Ok.bif (fun _ => ?_) (fun _ => next best hb)) (fun _ => next best hb)
  refine Ok.bind (eFire n r i _) fun v hv => ?_
  cases hvb : v.2.1
  · exact ih2 _ ⟨k + 1, by rw [Int.add_assoc], by omega, by omega⟩ (by show (imax r.2.1 1 + 9 - (imax r.2.1 1 + k + 1)).toNat < (imax r.2.1 1 + 9 - (imax r.2.1 1 + k)).toNat; omega)
  · have hf : ∀ f, some v.1 = some f → 0 ≤ f.1 ∧ f.1 < (l.length : Int) := fun f h => by
      obtain rfl := Option.some.inj h
      rw [(hv hvb).1]; exact ⟨i0, hi⟩
    show Ok (bif Option.isNone best then _ else _) _
    cases best with
    | none => exact next _ hf
    | some b =>
      simp only [Option.isNone_some, cond_false, Option.bind_some]
      rw [cOrder n (by omega), Option.bind_some]
      exact Ok.bif (fun _ => next _ hf) (fun _ => next _ hb)

/-! den -/
theorem cYear_ok (n : Nat) {t y m d : Int} (h0 : -9223372036854775808 ≤ t) (h1 : t ≤ 9223372036854775807) (h : rightB y m d = true) (he : dayN y m d = t / 86400) : Deyear n (t, ()) = some (y, (decide (-9998 ≤ y ∧ y ≤ 9998), ())) := by
  unfold Deyear Deyear_px
  have hr := rightB_iff.1 h
  simp only
  rw [cClock n h0 h1, Option.bind_some, ← he, cDate_ok n h, Option.bind_some]
  simp only [beq_self_eq_true, cond_true]
  rw [w64_id (x := 0 - y) (by omega) (by omega)]
  congr 2
  congr 1
  have := imax_or y (0 - y)
  rw [decide_eq_decide]; omega
theorem cYear_no (n : Nat) {t : Int} (h0 : -9223372036854775808 ≤ t) (h1 : t ≤ 9223372036854775807) (h : t / 86400 < ydayN (-9999) ∨ ydayN 10000 ≤ t / 86400) : Deyear n (t, ()) = some (0, (false, ())) := by
  unfold Deyear Deyear_px
  simp only
  rw [cClock n h0 h1, Option.bind_some, cDate_no n h, Option.bind_some]
  rfl
theorem year_cases {t : Int} : (∃ y m d, rightB y m d = true ∧ dayN y m d = t / 86400) ∨ (t / 86400 < ydayN (-9999) ∨ ydayN 10000 ≤ t / 86400) := by
  by_cases h : t / 86400 < ydayN (-9999) ∨ ydayN 10000 ≤ t / 86400
  · exact .inr h
  · exact .inl (exists_day (by omega) (by omega))
theorem eYear (n : Nat) {t : Int} (h0 : -9223372036854775808 ≤ t) (h1 : t ≤ 9223372036854775807) : Ok (Deyear n (t, ())) (fun v => v.2.1 = true → -9998 ≤ v.1 ∧ v.1 ≤ 9998) := by
  rcases year_cases (t := t) with ⟨y, m, d, h, he⟩ | h
  · rw [cYear_ok n h0 h1 h he]
    exact Ok.ret (fun hd => of_decide_eq_true hd)
  · rw [cYear_no n h0 h1 h]
    exact Ok.ret (fun h => by cases h)
theorem eSaving {n : Nat} (hn : 1000000 ≤ n) {l : List D_api_Rule} (hl : RulesB l) (off : Int) {t : Int} (h0 : -9223372036854775808 ≤ t) (h1 : t ≤ 9223372036854775807) : Ok (DeSaving n (l, (off, (t, ())))) (fun v => v.2.1.size ≤ 50) := by
  unfold DeSaving DeSaving_px
  refine Ok.bind (eYear n h0 h1) fun v hv => ?_
  have fin : Ok ((ELetter n (l, ())).bind fun v2 => some ((0 : Int), (v2.1, ()))) (fun v => v.2.1.size ≤ 50) := Ok.bind (eLetter hn hl) fun _ h => Ok.ret h
  cases hvb : v.2.1
  · exact fin
  simp only [Bool.not_true, cond_false]
  refine Ok.bif (fun _ => fin) (fun _ => ?_)
  refine Ok.bind (eSpan hn hl) fun s hs => ?_
  have hy := hv hvb
  rw [w64_id (x := v.1 + 1) (by omega) (by omega)]
  have m1 := imin_or (v.1 + 1) 9999
  have m2 := imin_or (imin (v.1 + 1) 9999) s.2.1
  have main : ∀ top : Int, -30000 ≤ top → top ≤ 10000 → Ok (DeSaving_s0 n (l, off, t, s.1, top)) (fun v => v.2.1.size ≤ 50) := by
    intro top t0 t1
    unfold DeSaving_s0 DeSaving_p0 DeSaving_s2
    refine rounds_ok (fun z => ∃ to : Int, z = (l, off, t, s.1, to) ∧ -30010 ≤ to ∧ to ≤ 10000) (fun z => (z.2.2.2.2 + 31000).toNat) ?_ n _ ⟨top, rfl, by omega, by omega⟩ (by show (top + 31000).toNat < n; omega)
    rintro rec z ⟨to, rfl, q0, q1⟩ ih
    simp only [DeSaving_s3, DeSaving_p3]
    refine Ok.dec (fun hto => ?_) (fun _ => fin)
    rw [w64_id (x := to - 7) (by omega) (by omega)]
    refine Ok.bind (eFrom hn hl (by omega) (by omega) (by omega) (by omega)) fun fs hfs => ?_
    obtain ⟨hf, hfl⟩ := hfs
    rw [w64_id (by omega) (by omega)]
    unfold DeSaving_s5
    refine rounds_ok (fun z => ∃ i : Int, z = (l, off, t, s.1, to, i, fs.1) ∧ -1 ≤ i ∧ i < (fs.1.length : Int)) (fun z => (z.2.2.2.2.2.1 + 1).toNat) ?_ n _ ⟨(fs.1.length : Int) - 1, rfl, by omega, by omega⟩ (by show ((fs.1.length : Int) - 1 + 1).toNat < n; omega)
    rintro rec2 z ⟨i, rfl, i0, i1⟩ ih2
    simp only [DeSaving_s6, DeSaving_p6]
    refine Ok.dec (fun hi => ?_) (fun _ => ?_)
    · refine Ok.dec (fun _ => ?_) (fun h => absurd ⟨hi, i1⟩ h)
      refine Ok.bind (Ok.get hi i1) fun e he => ?_
      refine Ok.bind (eInstant n l e off) fun w _ => ?_
      refine Ok.dec (fun _ => ?_) (fun _ => ?_)
      · refine Ok.dec (fun _ => ?_) (fun h => absurd ⟨hi, i1⟩ h)
        refine Ok.bind (Ok.get hi i1) fun e' he' => ?_
        have hb := hf e' he'.1
        exact Ok.dec (fun _ => Ok.bind (Ok.get hb.1 hb.2) fun e he => Ok.ret (hl.2 e he.1).2.2.2.2.2.2.2.2) (fun h => absurd hb.1 h)
      · rw [w64_id (by omega) (by omega)]
        exact ih2 _ ⟨i - 1, rfl, by omega, by omega⟩ (by show (i - 1 + 1).toNat < (i + 1).toNat; omega)
    · simp only [DeSaving_s4, DeSaving_p4]
      rw [w64_id (by omega) (by omega)]
      exact ih _ ⟨to - 8, rfl, by omega, by omega⟩ (by show (to - 8 + 31000).toNat < (to + 31000).toNat; omega)
  exact Ok.bif (fun _ => main _ (by omega) (by omega)) (fun _ => main _ (by omega) (by omega))

/-- An era's numbers are small. -/
def EraB (e : D_api_Era) : Prop := -100000 ≤ e.1 ∧ e.1 ≤ 100000 ∧ -100000 ≤ e.2.2.1 ∧ e.2.2.1 ≤ 100000 ∧ -700000 ≤ e.2.2.2.2.2.1.2.2.2.2.1.1 ∧ e.2.2.2.2.2.1.2.2.2.2.1.1 ≤ 700000 ∧ e.2.2.2.2.1.size ≤ 100
def ZoneB (z : D_A5Zone) : Prop := z.1.length ≤ 10 ∧ z.2.1.length ≤ 10 ∧ (∀ e, e ∈ z.1 → EraB e) ∧ ∀ l, l ∈ z.2.1 → RulesB l
theorem eZsaving {n : Nat} (hn : 1000000 ≤ n) {z : D_A5Zone} (hz : ZoneB z) {i t : Int} (i0 : 0 ≤ i) (i1 : i < (z.1.length : Int)) (h0 : -9223372036854775808 ≤ t) (h1 : t ≤ 9223372036854775807) : Ok (DeZone_saving n (z, (i, (t, ())))) (fun v => v.2.1.size ≤ 50) := by
  unfold DeZone_saving DeZone_saving_px
  simp only [DeZone_saving_s0, DeZone_saving_p0]
  refine Ok.dec (fun _ => ?_) (fun h => absurd i0 h)
  refine Ok.bind (Ok.get i0 i1) fun e he => ?_
  refine Ok.bif (fun _ => Ok.ret (Nat.zero_le _)) (fun _ => Ok.bif (fun _ => Ok.dec (fun hi => ?_) (fun _ => Ok.ret (Nat.zero_le _))) (fun _ => Ok.ret (Nat.zero_le _)))
  refine Ok.dec (fun _ => ?_) (fun h => absurd i0 h)
  refine Ok.bind (Ok.get i0 hi) fun l hl => ?_
  exact Ok.bind (eSaving hn (hz.2.2.2 l hl.1) _ h0 h1) fun _ h => Ok.ret h
theorem dayOf_bd (d : D_api_Day) (y m : Int) : -5000010 ≤ (dayOf d y m).1 ∧ (dayOf d y m).1 ≤ 5000010 := by
  unfold dayOf
  split
  · split
    · rename_i h
      have hb := dayN_bd h
      show -5000010 ≤ dayTo d (dayN y m (dayAt d y m)) ∧ dayTo d (dayN y m (dayAt d y m)) ≤ 5000010
      unfold dayTo
      split
      · omega
      · split <;> omega
    · exact ⟨by show -5000010 ≤ (0 : Int); omega, by show (0 : Int) ≤ 5000010; omega⟩
  · exact ⟨by show -5000010 ≤ (0 : Int); omega, by show (0 : Int) ≤ 5000010; omega⟩
theorem eClockU (n : Nat) (u : D_api_Until) (h0 : -700000 ≤ u.2.2.2.2.1.1) (h1 : u.2.2.2.2.1.1 ≤ 700000) : Ok (Declock n (u, ())) (fun v => -500000000000 ≤ v.1 ∧ v.1 ≤ 500000000000) := by
  unfold Declock Declock_px
  simp only [dOf, Option.bind_some]
  have hb := dayOf_bd u.2.2.2.1 u.2.1 u.2.2.1
  rw [w64_id (x := (dayOf u.2.2.2.1 u.2.1 u.2.2.1).1 * 86400) (by omega) (by omega), w64_id (by omega) (by omega)]
  have hx : -500000000000 ≤ (dayOf u.2.2.2.1 u.2.1 u.2.2.1).1 * 86400 + u.2.2.2.2.1.1 ∧ (dayOf u.2.2.2.1 u.2.1 u.2.2.1).1 * 86400 + u.2.2.2.2.1.1 ≤ 500000000000 := by omega
  exact Ok.bif (fun _ => Ok.dec (fun _ => Ok.ret hx) (fun _ => Ok.ret hx)) (fun _ => Ok.ret hx)
theorem eEnd {n : Nat} (hn : 1000000 ≤ n) {z : D_A5Zone} (hz : ZoneB z) (i : Int) : Ok (DeEnd n (z, (i, ()))) (fun _ => True) := by
  unfold DeEnd DeEnd_px
  simp only [DeEnd_s1, DeEnd_p1, DeEnd_s0, DeEnd_p0, cond_true]
  refine Ok.dec (fun _ => Ok.ret trivial) (fun h0 => Ok.dec (fun _ => Ok.ret trivial) (fun h1 => Ok.dec (fun i0 => ?_) (fun h => absurd (Int.not_lt.1 h0) h)))
  have i1 : i < (z.1.length : Int) := by omega
  refine Ok.bind (Ok.get i0 i1) fun e1 _ => Ok.bif (fun _ => Ok.ret trivial) (fun _ => ?_)
  refine Ok.dec (fun _ => ?_) (fun h => absurd i0 h)
  refine Ok.bind (Ok.get i0 i1) fun e he => ?_
  obtain ⟨b1, b2, b3, b4, b5, b6⟩ := hz.2.2.1 e he.1
  refine Ok.bind (eClockU n _ b5 b6.1) fun v hv => ?_
  refine Ok.bif (fun _ => Ok.ret trivial) (fun _ => Ok.bif (fun _ => ?_) (fun _ => Ok.bif (fun _ => Ok.ret trivial) (fun _ => Ok.ret trivial)))
  rw [w64_id (x := v.1 - e.1) (by omega) (by omega), w64_id (x := v.1 - e.1 - 1) (by omega) (by omega)]
  exact Ok.bind (eZsaving hn hz i0 i1 (by omega) (by omega)) fun _ _ => Ok.ret trivial
theorem eWithin (n : Nat) (a b : Int) : Ok (Dewithin n (a, (b, ()))) (fun _ => True) := by
  unfold Dewithin Dewithin_px
  exact Ok.dec (fun _ => Ok.ret trivial) (fun _ => Ok.ret trivial)
theorem eClocked (n : Nat) (a : D_api_At) : Ok (Declocked n (a, ())) (fun _ => True) := by
  unfold Declocked Declocked_px
  exact Ok.bind (eWithin n _ _) fun _ _ => Ok.bif (fun _ => Ok.dec (fun _ => Ok.ret trivial) (fun _ => Ok.ret trivial)) (fun _ => Ok.ret trivial)
theorem eFits1 (n : Nat) (r : D_api_Rule) : Ok (Defits_1 n (r, ())) (fun _ => True) := by
  unfold Defits_1 Defits_1_px
  exact Ok.bind (eWithin n _ _) fun _ _ => Ok.bif (fun _ => Ok.ret trivial) (fun _ => Ok.bind (eClocked n _) fun _ _ => Ok.ret trivial)
theorem eContains {n : Nat} (hn : 1000000 ≤ n) (l : List D_api_Rule) (hl : l.length ≤ 24) (u : Unit × Unit) : Ok (slices_ContainsFunc_api_Rule_api_Rule_Defits_1 n (l, u)) (fun _ => True) := by
  unfold slices_ContainsFunc_api_Rule_api_Rule_Defits_1 slices_ContainsFunc_api_Rule_api_Rule_Defits_1_px
  refine Ok.bind (P := fun _ => True) ?_ fun _ _ => Ok.ret trivial
  unfold slices_IndexFunc_api_Rule_api_Rule_Defits_1 slices_IndexFunc_api_Rule_api_Rule_Defits_1_px slices_IndexFunc_api_Rule_api_Rule_Defits_1_s1
  refine rounds_ok (fun z => ∃ i : Int, z = (l, (l.length : Int), i) ∧ 0 ≤ i ∧ i ≤ (l.length : Int)) (fun z => ((l.length : Int) - z.2.2).toNat) ?_ n _ ⟨0, rfl, by omega, by omega⟩ (by show ((l.length : Int) - 0).toNat < n; omega)
  rintro rec z ⟨i, rfl, i0, i1⟩ ih
  simp only [slices_IndexFunc_api_Rule_api_Rule_Defits_1_s2, slices_IndexFunc_api_Rule_api_Rule_Defits_1_p2, slices_IndexFunc_api_Rule_api_Rule_Defits_1_s0, slices_IndexFunc_api_Rule_api_Rule_Defits_1_p0]
  refine Ok.dec (fun hi => ?_) (fun _ => Ok.ret trivial)
  refine Ok.dec (fun _ => ?_) (fun h => absurd i0 h)
  refine Ok.bind (Ok.get i0 hi) fun r hr => Ok.bind (eFits1 n r) fun _ _ => Ok.bif (fun _ => Ok.ret trivial) (fun _ => ?_)
  rw [w64_id (by omega) (by omega)]
  exact ih _ ⟨i + 1, rfl, by omega, by omega⟩ (by show ((l.length : Int) - (i + 1)).toNat < ((l.length : Int) - i).toNat; omega)
theorem eFits {n : Nat} (hn : 1000000 ≤ n) {e : D_api_Era} (he : EraB e) {l : List D_api_Rule} (hl : l.length ≤ 24) : Ok (Defits n (e, (l, ()))) (fun _ => True) := by
  obtain ⟨b1, b2, b3, b4, b5, b6⟩ := he
  have two : Ok (Defits_s2 n l) (fun _ => True) := by
    simp only [Defits_s2, Defits_p2]
    exact Ok.bind (eContains hn l hl _) fun _ _ => Ok.ret trivial
  have zero : Ok (Defits_s0 n (l, e)) (fun _ => True) := by
    simp only [Defits_s0, Defits_p0]
    refine Ok.bif (fun _ => ?_) (fun _ => two)
    refine Ok.bind (eClockU n _ b5 b6.1) fun v _ => Ok.bif (fun _ => Ok.ret trivial) (fun _ => ?_)
    exact Ok.bind (eClocked n _) fun _ _ => Ok.bif (fun _ => Ok.ret trivial) (fun _ => two)
  have one : ∀ b, Ok (Defits_s1 n (Defits_s0 n) (l, b, e)) (fun _ => True) := fun b => by
    simp only [Defits_s1, Defits_p1]
    exact Ok.bif (fun _ => Ok.ret trivial) (fun _ => zero)
  unfold Defits Defits_px
  refine Ok.bind (eWithin n _ _) fun _ _ => Ok.bif (fun _ => one _) (fun _ => Ok.dec (fun _ => one _) (fun _ => Ok.dec (fun _ => one _) (fun _ => Ok.bif (fun _ => ?_) (fun _ => one _))))
  exact Ok.bind (eWithin n _ _) fun _ _ => Ok.bif (fun _ => one _) (fun _ => one _)
theorem eRight {n : Nat} (hn : 1000000 ≤ n) {z : D_A5Zone} (hz : ZoneB z) : Ok (DeRight n (z, ())) (fun v => v.1 = 0 → 1 ≤ z.1.length ∧ z.2.1.length = z.1.length) := by
  have hz1 := hz.1
  by_cases hc : 1 ≤ z.1.length ∧ z.2.1.length = z.1.length
  · refine Ok.mono (P := fun _ => True) ?_ fun _ _ _ => hc
    have five : Ok (DeRight_s5 n ((z.1.length : Int), z)) (fun _ => True) := by
      simp only [DeRight_s5, DeRight_p5, DeRight_s9]
      rw [w64_id (by omega) (by omega)]
      have m := imax_or ((z.1.length : Int) - 2) 0
      generalize imax ((z.1.length : Int) - 2) 0 = K at *
      refine rounds_ok (fun w => ∃ i : Int, w = (K, i, z) ∧ 0 ≤ i ∧ i ≤ K) (fun w => (K - w.2.1).toNat) ?_ n _ ⟨0, rfl, by omega, by omega⟩ (by show (K - 0).toNat < n; omega)
      rintro rec w ⟨i, rfl, i0, i1⟩ ih
      simp only [DeRight_s10, DeRight_p10, DeRight_s8, DeRight_p8]
      refine Ok.dec (fun hi => ?_) (fun _ => Ok.ret trivial)
      refine Ok.bind (eEnd hn hz _) fun _ _ => Ok.bind (eEnd hn hz _) fun _ _ => Ok.dec (fun _ => Ok.ret trivial) (fun _ => ?_)
      rw [w64_id (by omega) (by omega)]
      exact ih _ ⟨i + 1, rfl, by omega, by omega⟩ (by show (K - (i + 1)).toNat < (K - i).toNat; omega)
    have two : Ok (DeRight_s2 n ((z.1.length : Int), z)) (fun _ => True) := by
      simp only [DeRight_s2, DeRight_p2, DeRight_s6]
      refine rounds_ok (fun w => ∃ i : Int, w = ((z.1.length : Int), z.1, (z.1.length : Int), i, z) ∧ 0 ≤ i ∧ i ≤ (z.1.length : Int)) (fun w => ((z.1.length : Int) - w.2.2.2.1).toNat) ?_ n _ ⟨0, rfl, by omega, by omega⟩ (by show ((z.1.length : Int) - 0).toNat < n; omega)
      rintro rec w ⟨i, rfl, i0, i1⟩ ih
      simp only [DeRight_s7, DeRight_p7]
      refine Ok.dec (fun hi => ?_) (fun _ => five)
      refine Ok.dec (fun _ => ?_) (fun h => absurd i0 h)
      refine Ok.bind (Ok.get i0 hi) fun e _ => Ok.bif (fun _ => Ok.ret trivial) (fun _ => ?_)
      rw [w64_id (by omega) (by omega)]
      exact ih _ ⟨i + 1, rfl, by omega, by omega⟩ (by show ((z.1.length : Int) - (i + 1)).toNat < ((z.1.length : Int) - i).toNat; omega)
    have zero : Ok (DeRight_s0 n ((z.1.length : Int), z)) (fun _ => True) := by
      simp only [DeRight_s0, DeRight_p0, DeRight_s3]
      refine rounds_ok (fun w => ∃ i : Int, w = ((z.1.length : Int), z.1, (z.1.length : Int), i, z) ∧ 0 ≤ i ∧ i ≤ (z.1.length : Int)) (fun w => ((z.1.length : Int) - w.2.2.2.1).toNat) ?_ n _ ⟨0, rfl, by omega, by omega⟩ (by show ((z.1.length : Int) - 0).toNat < n; omega)
      rintro rec w ⟨i, rfl, i0, i1⟩ ih
      simp only [DeRight_s4, DeRight_p4]
      refine Ok.dec (fun hi => ?_) (fun _ => two)
      refine Ok.dec (fun _ => ?_) (fun h => absurd i0 h)
      refine Ok.bind (Ok.get i0 hi) fun e he => Ok.dec (fun _ => ?_) (fun h => absurd i0 h)
      refine Ok.bind (Ok.get i0 (by rw [hc.2]; exact hi)) fun l hl => ?_
      refine Ok.bind (eFits hn (hz.2.2.1 e he.1) (hz.2.2.2 l hl.1).1) fun _ _ => Ok.bif (fun _ => Ok.ret trivial) (fun _ => ?_)
      rw [w64_id (by omega) (by omega)]
      exact ih _ ⟨i + 1, rfl, by omega, by omega⟩ (by show ((z.1.length : Int) - (i + 1)).toNat < ((z.1.length : Int) - i).toNat; omega)
    have one : ∀ b, Ok (DeRight_s1 n (DeRight_s0 n) ((z.1.length : Int), b, z)) (fun _ => True) := fun b => by
      simp only [DeRight_s1, DeRight_p1]
      exact Ok.bif (fun _ => Ok.ret trivial) (fun _ => zero)
    unfold DeRight DeRight_px
    exact Ok.bif (fun _ => one _) (fun _ => Ok.dec (fun _ => one _) (fun _ => one _))
  · have one : Ok (DeRight_s1 n (DeRight_s0 n) ((z.1.length : Int), true, z)) (fun v => v.1 = 0 → 1 ≤ z.1.length ∧ z.2.1.length = z.1.length) := by
      simp only [DeRight_s1, DeRight_p1, cond_true]
      exact Ok.ret (fun h => by cases h)
    unfold DeRight DeRight_px
    refine Ok.bif (fun _ => one) (fun h1 => Ok.dec (fun _ => one) (fun _ => ?_))
    have h2 : ((z.2.1.length : Int) != (z.1.length : Int)) = true := by
      have : (z.1.length : Int) ≠ 0 := by simpa using h1
      simp only [bne_iff_ne, ne_eq]
      intro h; apply hc; omega
    rw [h2]; exact one
end Go.Proofs.YtadamegddcadcaaGreatDoorPi

namespace Go.Proofs.YtadamegddcadcaaGreatDoorPi
open Go
set_option maxRecDepth 100000
set_option maxHeartbeats 1000000
set_option linter.unusedVariables false

abbrev zState : D_DeState := ((0 : Int), ((0 : Int), ((⟨#[]⟩ : ByteArray), ())))
/-- What an answer at an instant says of the eras' ends. -/
def AtQ (n : Nat) (z : D_A5Zone) (t : Int) (v : D_DeState × (Int × Unit)) : Prop :=
  (v.2.1 ≠ 0 ∧ v.1 = zState) ∨ (v.2.1 = 0 ∧ v.1.2.2.1.size ≤ 50 ∧ 0 ≤ v.1.1 ∧ v.1.1 < (z.1.length : Int) ∧ (v.1.1 < (z.1.length : Int) - 1 → ∃ e u, DeEnd n (z, (v.1.1, ())) = some (e, u) ∧ t < e) ∧ ∀ j, 0 ≤ j → j < v.1.1 → ∃ e u, DeEnd n (z, (j, ())) = some (e, u) ∧ e ≤ t)
theorem eAt {n : Nat} (hn : 1000000 ≤ n) {z : D_A5Zone} (hz : ZoneB z) {t : Int} (h0 : -9223372036854775808 ≤ t) (h1 : t ≤ 9223372036854775807) : Ok (DeAt n (z, (t, ()))) (AtQ n z t) := by
  have hz1 := hz.1
  unfold DeAt DeAt_px
  refine Ok.bind (eRight hn hz) fun v hv => ?_
  rw [cb_ne]
  by_cases hv0 : v.1 = 0
  · rw [if_pos hv0]
    have hl1 : 1 ≤ z.1.length := (hv hv0).1
    refine Ok.bind (eYear n h0 h1) fun y _ => ?_
    cases y.2.1
    · exact Ok.ret (.inl ⟨by show (2 : Int) ≠ 0; omega, rfl⟩)
    · simp only [Bool.not_true, cond_false]
      unfold DeAt_s0
      refine rounds_ok (fun w => ∃ i : Int, w = (t, i, z, zState) ∧ 0 ≤ i ∧ i < (z.1.length : Int) ∧ ∀ j, 0 ≤ j → j < i → ∃ e u, DeEnd n (z, (j, ())) = some (e, u) ∧ e ≤ t) (fun w => ((z.1.length : Int) - w.2.1).toNat) ?_ n _ ⟨0, rfl, by omega, by omega, fun j a b => by omega⟩ (by show ((z.1.length : Int) - 0).toNat < n; omega)
      rintro rec w ⟨i, rfl, i0, i1, hj⟩ ih
      have fin : (i < (z.1.length : Int) - 1 → ∃ e u, DeEnd n (z, (i, ())) = some (e, u) ∧ t < e) → Ok (DeAt_s1 n (t, i, z, zState)) (AtQ n z t) := fun h => by
        simp only [DeAt_s1, DeAt_p1]
        exact Ok.bind (eZsaving hn hz i0 i1 h0 h1) fun s hs => Ok.ret (.inr ⟨rfl, hs, i0, i1, h, hj⟩)
      simp only [DeAt_s2, DeAt_p2]
      rw [w64_id (x := (z.1.length : Int) - 1) (by omega) (by omega)]
      refine Ok.dec (fun hi => ?_) (fun hi => fin fun h => absurd h hi)
      obtain ⟨e, he, _⟩ := eEnd hn hz i
      rw [he, Option.bind_some]
      refine Ok.dec (fun ht => fin fun _ => ⟨e.1, e.2, he, ht⟩) (fun ht => ?_)
      rw [w64_id (by omega) (by omega)]
      refine ih _ ⟨i + 1, rfl, by omega, by omega, fun j a b => ?_⟩ (by show ((z.1.length : Int) - (i + 1)).toNat < ((z.1.length : Int) - i).toNat; omega)
      by_cases hji : j < i
      · exact hj j a hji
      · obtain rfl : j = i := by omega
        exact ⟨e.1, e.2, he, by omega⟩
  · rw [if_neg hv0]
    exact Ok.ret (.inl ⟨hv0, rfl⟩)

/-! the guard -/
theorem light14 {n : Nat} (hn : 1000000 ≤ n) (l : List D_api_Rule) : Ok (B4Light n (l, ((6 : Int), ()))) (fun v => v.1 = true → RulesB l) := by
  unfold B4Light B4Light_px
  refine Ok.dec (fun _ => Ok.ret (fun h => by cases h)) (fun h6 => ?_)
  have h6 : l.length ≤ 6 := by have h6 : ¬ (l.length : Int) > 6 := h6; omega
  unfold B4Light_s1
  refine rounds_ok (fun z => ∃ i : Nat, z = (l, (i : Int)) ∧ i ≤ l.length ∧ ∀ (j : Nat) r, j < i → l[j]? = some r → RuleB r) (fun z => (l.length : Int).toNat - z.2.toNat) ?_ n _ ⟨0, rfl, by omega, fun j r h => by omega⟩ (by show (l.length : Int).toNat - 0 < n; omega)
  rintro rec z ⟨i, rfl, i1, hj⟩ ih
  simp only [B4Light_s2, B4Light_p2, B4Light_s3, B4Light_p3, B4Light_s4, B4Light_p4, B4Light_s0, B4Light_p0]
  refine Ok.dec (fun hi => ?_) (fun hi => Ok.ret fun _ => ⟨by omega, fun r hr => ?_⟩)
  · have i0 : 0 ≤ (i : Int) := by omega
    have hlt : i < l.length := by omega
    have hget : l[Int.toNat (i : Int)]? = some l[i] := by rw [Int.toNat_natCast]; exact List.getElem?_eq_getElem hlt
    simp only [hget, Option.bind_some, decide_eq_true i0, cond_true, cb_dec]
    have no : Ok (some (false, ()) : Option (Bool × Unit)) (fun v => v.1 = true → RulesB l) := Ok.ret (fun h => by cases h)
    by_cases c1 : l[i].2.2.2.2.2.1.1 < -700000
    · rw [if_pos c1]; exact no
    by_cases c2 : l[i].2.2.2.2.2.1.1 > 700000
    · rw [if_neg c1, if_pos c2]; exact no
    by_cases c3 : l[i].2.2.2.2.2.2.1 < -100000
    · rw [if_neg c1, if_neg c2, if_pos c3]; exact no
    by_cases c4 : l[i].2.2.2.2.2.2.1 > 100000
    · rw [if_neg c1, if_neg c2, if_neg c3, if_pos c4]; exact no
    by_cases c5 : (ByteArray.size l[i].2.2.2.2.2.2.2.1 : Int) > 50
    · rw [if_neg c1, if_neg c2, if_neg c3, if_neg c4, if_pos c5]; exact no
    by_cases c6 : l[i].2.1 < -20000
    · rw [if_neg c1, if_neg c2, if_neg c3, if_neg c4, if_neg c5, if_pos c6]; exact no
    by_cases c7 : l[i].2.1 > 20000
    · rw [if_neg c1, if_neg c2, if_neg c3, if_neg c4, if_neg c5, if_neg c6, if_pos c7]; exact no
    by_cases c8 : l[i].2.2.1 < -20000
    · rw [if_neg c1, if_neg c2, if_neg c3, if_neg c4, if_neg c5, if_neg c6, if_neg c7, if_pos c8]; exact no
    rw [if_neg c1, if_neg c2, if_neg c3, if_neg c4, if_neg c5, if_neg c6, if_neg c7, if_neg c8]
    by_cases c9 : l[i].2.2.1 > 20000
    · rw [if_pos c9]; exact no
    rw [if_neg c9, w64_id (by omega) (by omega)]
    refine ih _ ⟨i + 1, rfl, by omega, fun j r hlt' hr => ?_⟩ (by show (l.length : Int).toNat - (((i + 1 : Nat) : Int)).toNat < (l.length : Int).toNat - (i : Int).toNat; omega)
    by_cases hji : j < i
    · exact hj j r hji hr
    · obtain rfl : j = i := by omega
      rw [List.getElem?_eq_getElem hlt] at hr
      obtain rfl := Option.some.inj hr
      exact ⟨by omega, by omega, by omega, by omega, by omega, by omega, by omega, by omega, by omega⟩
  · obtain ⟨j, hjl, rfl⟩ := List.getElem_of_mem hr
    exact hj j _ (by omega) (List.getElem?_eq_getElem hjl)
theorem light15 {n : Nat} (hn : 1000000 ≤ n) (z : D_A5Zone) : Ok (B5Light n (z, ())) (fun v => v.1 = true → ZoneB z) := by
  unfold B5Light B5Light_px
  refine Ok.dec (fun _ => Ok.ret (fun h => by cases h)) (fun h1 => Ok.dec (fun _ => Ok.ret (fun h => by cases h)) (fun h2 => ?_))
  have h1 : z.1.length ≤ 10 := by have h1 : ¬ (z.1.length : Int) > 10 := h1; omega
  have h2 : z.2.1.length ≤ 10 := by have h2 : ¬ (z.2.1.length : Int) > 10 := h2; omega
  have no : Ok (some (false, ()) : Option (Bool × Unit)) (fun v => v.1 = true → ZoneB z) := Ok.ret (fun h => by cases h)
  have eras : (∀ l, l ∈ z.2.1 → RulesB l) → Ok (B5Light_s0 n z) (fun v => v.1 = true → ZoneB z) := by
    intro hr
    simp only [B5Light_s0, B5Light_p0, B5Light_s4]
    refine rounds_ok (fun w => ∃ i : Nat, w = ((i : Int), z) ∧ i ≤ z.1.length ∧ ∀ (j : Nat) e, j < i → z.1[j]? = some e → EraB e) (fun w => z.1.length - w.1.toNat) ?_ n _ ⟨0, rfl, by omega, fun j e h => by omega⟩ (by show z.1.length - 0 < n; omega)
    rintro rec w ⟨i, rfl, i1, hj⟩ ih
    simp only [B5Light_s5, B5Light_p5, B5Light_s6, B5Light_p6, B5Light_s7, B5Light_p7, B5Light_s3, B5Light_p3]
    refine Ok.dec (fun hi => ?_) (fun hi => Ok.ret fun _ => ⟨h1, h2, fun e he => ?_, hr⟩)
    · have i0 : 0 ≤ (i : Int) := by omega
      have hlt : i < z.1.length := by omega
      have hget : z.1[Int.toNat (i : Int)]? = some z.1[i] := by rw [Int.toNat_natCast]; exact List.getElem?_eq_getElem hlt
      simp only [hget, Option.bind_some, decide_eq_true i0, cond_true, cb_dec]
      by_cases c1 : z.1[i].1 < -100000
      · rw [if_pos c1]; exact no
      by_cases c2 : z.1[i].1 > 100000
      · rw [if_neg c1, if_pos c2]; exact no
      by_cases c3 : z.1[i].2.2.1 < -100000
      · rw [if_neg c1, if_neg c2, if_pos c3]; exact no
      by_cases c4 : z.1[i].2.2.1 > 100000
      · rw [if_neg c1, if_neg c2, if_neg c3, if_pos c4]; exact no
      by_cases c5 : z.1[i].2.2.2.2.2.1.2.2.2.2.1.1 < -700000
      · rw [if_neg c1, if_neg c2, if_neg c3, if_neg c4, if_pos c5]; exact no
      by_cases c6 : z.1[i].2.2.2.2.2.1.2.2.2.2.1.1 > 700000
      · rw [if_neg c1, if_neg c2, if_neg c3, if_neg c4, if_neg c5, if_pos c6]; exact no
      by_cases c7 : (ByteArray.size z.1[i].2.2.2.1 : Int) > 100
      · rw [if_neg c1, if_neg c2, if_neg c3, if_neg c4, if_neg c5, if_neg c6, if_pos c7]; exact no
      rw [if_neg c1, if_neg c2, if_neg c3, if_neg c4, if_neg c5, if_neg c6, if_neg c7]
      by_cases c8 : (ByteArray.size z.1[i].2.2.2.2.1 : Int) > 100
      · rw [if_pos c8]; exact no
      rw [if_neg c8, w64_id (by omega) (by omega)]
      refine ih _ ⟨i + 1, rfl, by omega, fun j e hlt' he => ?_⟩ (by show z.1.length - (((i + 1 : Nat) : Int)).toNat < z.1.length - (i : Int).toNat; omega)
      by_cases hji : j < i
      · exact hj j e hji he
      · obtain rfl : j = i := by omega
        rw [List.getElem?_eq_getElem hlt] at he
        obtain rfl := Option.some.inj he
        exact ⟨by omega, by omega, by omega, by omega, by omega, by omega, by omega⟩
    · obtain ⟨j, hjl, rfl⟩ := List.getElem_of_mem he
      exact hj j _ (by omega) (List.getElem?_eq_getElem hjl)
  unfold B5Light_s1
  refine rounds_ok (fun w => ∃ i : Nat, w = ((i : Int), z) ∧ i ≤ z.2.1.length ∧ ∀ (j : Nat) l, j < i → z.2.1[j]? = some l → RulesB l) (fun w => z.2.1.length - w.1.toNat) ?_ n _ ⟨0, rfl, by omega, fun j e h => by omega⟩ (by show z.2.1.length - 0 < n; omega)
  rintro rec w ⟨i, rfl, i1, hj⟩ ih
  simp only [B5Light_s2, B5Light_p2]
  refine Ok.dec (fun hi => ?_) (fun hi => eras fun l hl => ?_)
  · have i0 : 0 ≤ (i : Int) := by omega
    have hlt : i < z.2.1.length := by omega
    have hget : z.2.1[Int.toNat (i : Int)]? = some z.2.1[i] := by rw [Int.toNat_natCast]; exact List.getElem?_eq_getElem hlt
    rw [hget, decide_eq_true i0, cond_true, Option.bind_some]
    refine Ok.bind (light14 hn z.2.1[i]) fun v hv => ?_
    cases hvb : v.1
    · exact no
    simp only [Bool.not_true, cond_false]
    rw [w64_id (by omega) (by omega)]
    refine ih _ ⟨i + 1, rfl, by omega, fun j l hlt' hl => ?_⟩ (by show z.2.1.length - (((i + 1 : Nat) : Int)).toNat < z.2.1.length - (i : Int).toNat; omega)
    by_cases hji : j < i
    · exact hj j l hji hl
    · obtain rfl : j = i := by omega
      rw [List.getElem?_eq_getElem hlt] at hl
      obtain rfl := Option.some.inj hl
      exact hv hvb
  · obtain ⟨j, hjl, rfl⟩ := List.getElem_of_mem hl
    exact hj j _ (by omega) (List.getElem?_eq_getElem hjl)
theorem own_eq (n : Nat) (z : D_A5Zone) : B5Own n (z, ()) = some (z, ()) := rfl
end Go.Proofs.YtadamegddcadcaaGreatDoorPi
