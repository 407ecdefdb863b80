import Derived.Test.YtadamegddcadcaaGreatDoorExp
import Derived.Test.YtadamegddcadcaaGreatDoorCalR
set_option linter.unusedVariables false
namespace Go.Proofs.YtadamegddcadcaaGreatDoorPi
open Go
set_option maxRecDepth 100000
set_option maxHeartbeats 1000000
set_option linter.unusedVariables false

/-! the document's days of a month -/
theorem Ok.eq {R : Type} {o : Option R} {x : R} (h : Ok o (fun v => v = x)) : o = some x := by
  obtain ⟨r, e, rfl⟩ := h; exact e
theorem rDayRight (n : Nat) (d : D_api_Day) : A3Right n (d, ()) = some (dayRB d, ()) := by
  obtain ⟨k, a, w, u⟩ := d
  have key : ∀ b : Bool, (b = true ↔ dayRB (k, (a, (w, u))) = true) → (some (b, ()) : Option (Bool × Unit)) = some (dayRB (k, (a, (w, u))), ()) := fun b h => by
    rw [show b = dayRB (k, (a, (w, u))) from Bool.eq_iff_iff.2 h]
  have kf : dayRB (k, (a, (w, u))) = false → (some (false, ()) : Option (Bool × Unit)) = some (dayRB (k, (a, (w, u))), ()) := fun h => by rw [h]
  have iff' := dayRB_iff (d := (k, (a, (w, u))))
  simp only at iff'
  have nf : ¬ (0 ≤ k ∧ k ≤ 3 ∧ 0 ≤ w ∧ w ≤ 6 ∧ (if k = 1 then a = 0 else 1 ≤ a ∧ a ≤ 31 ∧ (0 < k ∨ w = 0))) → dayRB (k, (a, (w, u))) = false := fun h => by
    cases hq : dayRB (k, (a, (w, u)))
    · rfl
    · exact absurd (iff'.1 hq) h
  unfold A3Right A3Right_px A3Right_s1 A3Right_p1 A3Right_s0 A3Right_p0
  simp only [cb_dec, cb_eq, ge_iff_le]
  by_cases k0 : k = 0
  · subst k0
    have e1 : ((0 : Int) = 1) = False := by simp
    simp only [e1, if_false, if_true] at *
    repeat' split
    all_goals first | (refine kf (nf ?_); omega) | (refine key _ ?_; rw [iff', beq_iff_eq]; omega)
  by_cases k1 : k = 1
  · subst k1
    have e1 : ((1 : Int) = 0) = False := by simp
    simp only [e1, if_false, if_true] at *
    repeat' split
    all_goals first | (refine kf (nf ?_); omega) | (refine key _ ?_; rw [iff', beq_iff_eq]; omega)
  simp only [k0, k1, if_false, cond_true, cond_false] at iff' nf ⊢
  repeat' split
  all_goals first | (refine kf (nf ?_); omega) | (refine key _ ?_; rw [iff', decide_eq_true_iff]; omega)
theorem rOf {n : Nat} (hn : 1000000 ≤ n) (d : D_api_Day) (y m : Int) : A3Of n (d, (y, (m, ()))) = some (dayOf d y m) := by
  refine Ok.eq ?_
  unfold A3Of A3Of_px
  simp only [rDayRight, rLong, rRight, Option.bind_some]
  unfold dayOf
  cases hd : dayRB d
  · exact Ok.ret rfl
  rw [if_pos rfl]
  have hr := dayRB_iff.1 hd
  simp only [Bool.not_true, cond_false]
  have main : ∀ at_ : Int, at_ = dayAt d y m → Ok (A3Of_s0 n (y, m, at_, d)) (fun v => v = if rightB y m (dayAt d y m) = true then (dayTo d (dayN y m (dayAt d y m)), ((0 : Int), ())) else ((0 : Int), ((6 : Int), ()))) ∨ ¬ rightB y m (dayAt d y m) = true := by
    rintro at_ rfl
    rcases Decidable.em (¬ rightB y m (dayAt d y m) = true) with hq | hq
    · exact .inr hq
    have hq : rightB y m (dayAt d y m) = true := Decidable.not_not.1 hq
    left
    rw [if_pos hq]
    unfold A3Of_s0 A3Of_p0
    simp only [rDays hn, if_pos hq, Option.bind_some, cb_eq]
    have hb := dayN_bd hq
    generalize dayN y m (dayAt d y m) = t at *
    unfold dayTo
    by_cases k0 : d.1 = 0
    · rw [if_pos k0, if_pos k0]; exact Ok.ret rfl
    rw [if_neg k0, if_neg k0]
    unfold A3Of_s2
    by_cases k2 : d.1 = 2
    · rw [if_pos k2]
      refine rounds_ok (fun z => ∃ i : Int, z = (t + i, i, d) ∧ 0 ≤ i ∧ i ≤ (d.2.2.1 - (t + 4)) % 7) (fun z => (7 - z.2.1).toNat) ?_ n _ ⟨0, by simp, by omega, by omega⟩ (by show ((7 : Int) - 0).toNat < n; omega)
      rintro rec z ⟨i, rfl, i0, i1⟩ ih
      simp only [A3Of_s3, A3Of_p3, A3Of_s4, A3Of_p4, A3Of_s1, A3Of_p1, rWeek, Option.bind_some, cb_ne, cb_eq, if_pos k2]
      refine Ok.dec (fun _ => ?_) (fun h => absurd (show i < 7 by omega) h)
      by_cases hw : (t + i + 4) % 7 = d.2.2.1
      · rw [if_pos hw]
        exact Ok.ret (by rw [show i = (d.2.2.1 - (t + 4)) % 7 by omega])
      · rw [if_neg hw, w64_id (x := t + i + 1) (by omega) (by omega), w64_id (x := i + 1) (by omega) (by omega)]
        exact ih _ ⟨i + 1, by rw [Int.add_assoc], by omega, by omega⟩ (by show (7 - (i + 1)).toNat < (7 - i).toNat; omega)
    · rw [if_neg k2]
      refine rounds_ok (fun z => ∃ i : Int, z = (t - i, i, d) ∧ 0 ≤ i ∧ i ≤ (t + 4 - d.2.2.1) % 7) (fun z => (7 - z.2.1).toNat) ?_ n _ ⟨0, by simp, by omega, by omega⟩ (by show ((7 : Int) - 0).toNat < n; omega)
      rintro rec z ⟨i, rfl, i0, i1⟩ ih
      simp only [A3Of_s3, A3Of_p3, A3Of_s4, A3Of_p4, A3Of_s1, A3Of_p1, rWeek, Option.bind_some, cb_ne, cb_eq, if_neg k2]
      refine Ok.dec (fun _ => ?_) (fun h => absurd (show i < 7 by omega) h)
      by_cases hw : (t - i + 4) % 7 = d.2.2.1
      · rw [if_pos hw]
        exact Ok.ret (by rw [show i = (t + 4 - d.2.2.1) % 7 by omega])
      · rw [if_neg hw, w64_id (x := t - i - 1) (by omega) (by omega), w64_id (x := i + 1) (by omega) (by omega)]
        exact ih _ ⟨i + 1, by rw [show t - i - 1 = t - (i + 1) by omega], by omega, by omega⟩ (by show (7 - (i + 1)).toNat < (7 - i).toNat; omega)
  have out : ¬ rightB y m (dayAt d y m) = true → Ok (some ((0 : Int), ((6 : Int), ())) : Option D_api_At) (fun v => v = if rightB y m (dayAt d y m) = true then (dayTo d (dayN y m (dayAt d y m)), ((0 : Int), ())) else ((0 : Int), ((6 : Int), ()))) := fun h => by
    rw [if_neg h]; exact Ok.ret rfl
  have hlong := longN_hi y m
  have go : dayAt d y m = (if d.1 = 1 then longN y m else d.2.1) := rfl
  cases h1 : rightB y m 1
  · refine out fun q => ?_
    have := rightB_iff.1 q
    have hn1 : ¬ rightB y m 1 = true := by rw [h1]; simp
    exact hn1 (rightB_iff.2 ⟨this.1, this.2.1, by omega, by omega⟩)
  rw [rightB_iff] at h1
  simp only [Bool.not_true, cond_false]
  refine Ok.dec (fun hgt => ?_) (fun hgt => ?_)
  · refine out fun q => ?_
    have hgt : d.2.1 > longN y m := hgt
    have := (rightB_iff.1 q).2.2.2
    rw [go] at this
    have := hr.2.2.2.2
    split at this
    · omega
    · rename_i hk; rw [if_neg hk] at *; omega
  · have hgt : ¬ d.2.1 > longN y m := hgt
    have hq : rightB y m (dayAt d y m) = true := by
      rw [rightB_iff, go]
      have := hr.2.2.2.2
      split at this
      · rename_i hk; rw [if_pos hk]; omega
      · rename_i hk; rw [if_neg hk]; omega
    rw [cb_eq]
    by_cases hk : d.1 = 1
    · rw [if_pos hk]
      exact (main _ (by rw [go, if_pos hk])).resolve_right (fun h => h hq)
    · rw [if_neg hk]
      exact (main _ (by rw [go, if_neg hk])).resolve_right (fun h => h hq)
end Go.Proofs.YtadamegddcadcaaGreatDoorPi

namespace Go.Proofs.YtadamegddcadcaaGreatDoorPi
open Go
set_option maxRecDepth 100000
set_option maxHeartbeats 1000000
set_option linter.unusedVariables false

/-! spans -/
def SpanQ (l : List D_api_Rule) (v : Int × (Int × (Bool × Unit))) : Prop :=
  (∀ r, r ∈ l → v.1 ≤ r.2.1) ∧ (v.2.2.1 = false → ∀ r, r ∈ l → r.2.2.1 ≤ v.2.1) ∧ (-20000 ≤ v.1 ∧ v.1 ≤ 20000) ∧ (-20000 ≤ v.2.1 ∧ v.2.1 ≤ 20000)
/-- The first so many rules are within. -/
def SpanI (l : List D_api_Rule) (i a b : Int) (e : Bool) : Prop :=
  (∀ (j : Nat) r, (j : Int) < i → l[j]? = some r → a ≤ r.2.1 ∧ (e = false → r.2.2.1 ≤ b)) ∧ (-20000 ≤ a ∧ a ≤ 20000) ∧ (-20000 ≤ b ∧ b ≤ 20000)
theorem SpanI.fin {l : List D_api_Rule} {i a b : Int} {e : Bool} (h : SpanI l i a b e) (hi : (l.length : Int) ≤ i) : SpanQ l (a, (b, (e, ()))) := by
  refine ⟨fun r hr => ?_, fun he r hr => ?_, h.2.1, h.2.2⟩
  · obtain ⟨j, hj⟩ := List.mem_iff_getElem?.1 hr
    have := (List.getElem?_eq_some_iff.1 hj).1
    exact (h.1 j r (by omega) hj).1
  · obtain ⟨j, hj⟩ := List.mem_iff_getElem?.1 hr
    have := (List.getElem?_eq_some_iff.1 hj).1
    exact (h.1 j r (by omega) hj).2 he
theorem SpanI.next {l : List D_api_Rule} {i a b a' b' : Int} {e e' : Bool} {r : D_api_Rule} (h : SpanI l i a b e) (i0 : 0 ≤ i) (hr : l[Int.toNat i]? = some r) (h1 : i = 0 ∨ a' ≤ a) (h2 : a' ≤ r.2.1) (h3 : e' = false → e = false ∧ (i = 0 ∨ b ≤ b') ∧ r.2.2.1 ≤ b') (h4 : -20000 ≤ a' ∧ a' ≤ 20000) (h5 : -20000 ≤ b' ∧ b' ≤ 20000) : SpanI l (i + 1) a' b' e' := by
  refine ⟨fun j q hj hq => ?_, h4, h5⟩
  by_cases hji : (j : Int) = i
  · have : Int.toNat i = j := by omega
    rw [this] at hr
    obtain rfl : r = q := Option.some.inj (hr.symm.trans hq)
    exact ⟨h2, fun he => (h3 he).2.2⟩
  · have k := h.1 j q (by omega) hq
    refine ⟨?_, fun he => ?_⟩
    · rcases h1 with h1 | h1
      · omega
      · exact Int.le_trans h1 k.1
    · obtain ⟨x, y, z⟩ := h3 he
      rcases y with y | y
      · omega
      · exact Int.le_trans (k.2 x) y
theorem pSpan {n : Nat} (hn : 1000000 ≤ n) {l : List D_api_Rule} (hl : RulesB l) : Ok (ESpan n (l, ())) (SpanQ l) := by
  unfold ESpan ESpan_px ESpan_s1
  obtain ⟨hlen, hall⟩ := hl
  refine rounds_ok (fun z => ∃ (a b i : Int) (e : Bool), z = (a, b, e, l, (l.length : Int), i) ∧ 0 ≤ i ∧ i ≤ (l.length : Int) ∧ SpanI l i a b e) (fun z => ((l.length : Int) - z.2.2.2.2.2).toNat) ?_ n _ ⟨0, 0, 0, false, rfl, by omega, by omega, fun j r h => by omega, by omega, by omega⟩ (by show ((l.length : Int) - 0).toNat < n; omega)
  rintro rec z ⟨a, b, i, e, rfl, i0, i1, hI⟩ ih
  simp only [ESpan_s2, ESpan_p2, ESpan_s3, ESpan_p3, ESpan_s4, ESpan_p4, ESpan_s5, ESpan_p5, ESpan_s0, ESpan_p0]
  refine Ok.dec (fun hi => ?_) (fun hi => Ok.ret (hI.fin (by have hi : ¬ i < (l.length : Int) := hi; omega)))
  refine Ok.dec (fun _ => ?_) (fun h => absurd i0 h)
  refine Ok.bind (Ok.get i0 hi) fun r hr => ?_
  obtain ⟨_, _, _, _, a1, a2, a3, a4, _⟩ := hall r hr.1
  rw [w64_id (x := i + 1) (by omega) (by omega)]
  have next : ∀ x y c', SpanI l (i + 1) x y c' → Ok (rec (x, y, c', l, (l.length : Int), i + 1)) (SpanQ l) := fun x y c' h =>
    ih _ ⟨x, y, i + 1, c', rfl, by omega, by omega, h⟩ (by show ((l.length : Int) - (i + 1)).toNat < ((l.length : Int) - i).toNat; omega)
  obtain ⟨_, hA, hB⟩ := id hI
  have q1 := imin_or r.2.1 r.2.1
  have q2 := imin_or a r.2.1
  simp only [cb_eq]
  by_cases ht : r.2.2.1 = 10000
  · rw [if_pos ht]
    have q3 := imax_or r.2.1 r.2.1
    have q4 := imax_or (imax r.2.1 r.2.1) r.2.1
    have q5 := imax_or b r.2.1
    by_cases h0 : i = 0
    · rw [if_pos h0]; exact next _ _ _ (hI.next i0 hr.2 (.inl h0) (by omega) (fun h => by cases h) (by omega) (by omega))
    · rw [if_neg h0]; exact next _ _ _ (hI.next i0 hr.2 (.inr (by omega)) (by omega) (fun h => by cases h) (by omega) (by omega))
  · rw [if_neg ht]
    have q3 := imax_or r.2.2.1 r.2.1
    have q4 := imax_or (imax r.2.2.1 r.2.1) r.2.2.1
    have q5 := imax_or b r.2.2.1
    by_cases h0 : i = 0
    · rw [if_pos h0]; exact next _ _ _ (hI.next i0 hr.2 (.inl h0) (by omega) (fun h => ⟨h, .inl h0, by omega⟩) (by omega) (by omega))
    · rw [if_neg h0]; exact next _ _ _ (hI.next i0 hr.2 (.inr (by omega)) (by omega) (fun h => ⟨h, .inr (by omega), by omega⟩) (by omega) (by omega))
theorem rSpan {n : Nat} (hn : 1000000 ≤ n) {l : List D_api_Rule} (hl : RulesB l) : Ok (A4Span n (l, ())) (SpanQ l) := by
  unfold A4Span A4Span_px A4Span_s1
  obtain ⟨hlen, hall⟩ := hl
  rw [cb_eq]
  by_cases h0 : (l.length : Int) = 0
  · rw [if_pos h0]
    have : l = [] := List.length_eq_zero_iff.1 (by omega)
    subst this
    exact Ok.ret ⟨fun r h => by simp at h, fun _ r h => by simp at h, by decide, by decide⟩
  rw [if_neg h0]
  obtain ⟨r0, hr0⟩ : ∃ r, l[Int.toNat (0 : Int)]? = some r := ⟨_, List.getElem?_eq_getElem (show 0 < l.length by omega)⟩
  obtain ⟨_, _, _, _, c1, c2, _, _, _⟩ := hall r0 (List.mem_of_getElem? hr0)
  simp only [hr0, Option.bind_some]
  refine rounds_ok (fun z => ∃ (a b i : Int) (e : Bool), z = (l, a, b, e, i) ∧ 0 ≤ i ∧ i ≤ (l.length : Int) ∧ SpanI l i a b e) (fun z => ((l.length : Int) - z.2.2.2.2).toNat) ?_ n _ ⟨_, _, 0, false, rfl, by omega, by omega, fun j r h => by omega, by omega, by omega⟩ (by show ((l.length : Int) - 0).toNat < n; omega)
  rintro rec z ⟨a, b, i, e, rfl, i0, i1, hI⟩ ih
  simp only [A4Span_s2, A4Span_p2, A4Span_s3, A4Span_p3, A4Span_s0, A4Span_p0]
  refine Ok.dec (fun hi => ?_) (fun hi => Ok.ret (hI.fin (by have hi : ¬ i < (l.length : Int) := hi; omega)))
  refine Ok.dec (fun _ => ?_) (fun h => absurd i0 h)
  refine Ok.bind (Ok.get i0 hi) fun r hr => ?_
  obtain ⟨_, _, _, _, a1, a2, a3, a4, _⟩ := hall r hr.1
  simp only [hr.2, Option.bind_some, decide_eq_true i0, cond_true, cb_eq]
  rw [w64_id (x := i + 1) (by omega) (by omega)]
  have next : ∀ x y c', SpanI l (i + 1) x y c' → Ok (rec (l, x, y, c', i + 1)) (SpanQ l) := fun x y c' h =>
    ih _ ⟨x, y, i + 1, c', rfl, by omega, by omega, h⟩ (by show ((l.length : Int) - (i + 1)).toNat < ((l.length : Int) - i).toNat; omega)
  obtain ⟨_, hA, hB⟩ := id hI
  have q2 := imin_or a r.2.1
  have q4 := imax_or b r.2.1
  have q5 := imax_or b r.2.2.1
  by_cases ht : r.2.2.1 = 10000
  · rw [if_pos ht]; exact next _ _ _ (hI.next i0 hr.2 (.inr (by omega)) (by omega) (fun h => by cases h) (by omega) (by omega))
  · rw [if_neg ht]; exact next _ _ _ (hI.next i0 hr.2 (.inr (by omega)) (by omega) (fun h => ⟨h, .inr (by omega), by omega⟩) (by omega) (by omega))
/-! instants -/
def instOf (r : D_api_Rule) (f : D_EFire) (off : Int) : Int := if r.2.2.2.2.2.1.2.1 = 0 then f.2.2.1 - off - f.2.2.2.1 else if r.2.2.2.2.2.1.2.1 = 1 then f.2.2.1 - off else f.2.2.1
theorem fireAt_bd {l : List D_api_Rule} (hl : RulesB l) {f : D_EFire} (hf : FireIn l f) : -432002000000 ≤ f.2.2.1 ∧ f.2.2.1 ≤ 432002000000 := by
  obtain ⟨r, _, hr, _, e⟩ := hf
  rw [e]
  have hb := dayOf_bd r.2.2.2.2.1 f.2.1 r.2.2.2.1
  obtain ⟨b1, b2, _⟩ := hl.2 r (List.mem_of_getElem? hr)
  show -432002000000 ≤ fireAt r f.2.1 ∧ fireAt r f.2.1 ≤ 432002000000
  unfold fireAt; omega
theorem pInstant (n : Nat) {l : List D_api_Rule} (hl : RulesB l) {f : D_EFire} (hf : FireIn l f) {r : D_api_Rule} (hr : l[Int.toNat f.1]? = some r) {s off : Int} (h0 : -100000 ≤ s ∧ s ≤ 100000) (h1 : -100000 ≤ off ∧ off ≤ 100000) :
    EInstant n (l, (setB f s, (off, ()))) = some (instOf r (setB f s) off, ()) := by
  have hb := fireAt_bd hl hf
  have hi := hf.lt
  unfold EInstant EInstant_px EInstant_s0 EInstant_p0 instOf
  have e1 : (setB f s).1 = f.1 := rfl
  have e2 : (setB f s).2.2.1 = f.2.2.1 := rfl
  have e3 : (setB f s).2.2.2.1 = s := rfl
  simp only [e1, e2, e3, hr, Option.bind_some, cb_eq, cb_dec, ge_iff_le]
  rw [if_neg (by omega), if_neg (by omega), if_pos hi.1]
  split
  · rw [w64_id (x := off + s) (by omega) (by omega), w64_id (by omega) (by omega)]; congr 2; omega
  · split
    · rw [w64_id (by omega) (by omega)]
    · rw [w64_id (by omega) (by omega)]; congr 2; omega
theorem rInstant (n : Nat) {l : List D_api_Rule} (hl : RulesB l) {f : D_EFire} (hf : FireIn l f) {r : D_api_Rule} (hr : l[Int.toNat f.1]? = some r) {s off : Int} (h0 : -100000 ≤ s ∧ s ≤ 100000) (h1 : -100000 ≤ off ∧ off ≤ 100000) :
    A4Instant n (l, (setB f s, (off, ()))) = some (instOf r (setB f s) off, ()) := by
  have hb := fireAt_bd hl hf
  have hi := hf.lt
  unfold A4Instant A4Instant_px instOf
  have e1 : (setB f s).1 = f.1 := rfl
  have e2 : (setB f s).2.2.1 = f.2.2.1 := rfl
  have e3 : (setB f s).2.2.2.1 = s := rfl
  simp only [e1, e2, e3, hr, Option.bind_some, cb_eq, cb_dec, ge_iff_le]
  rw [if_neg (by omega), if_neg (by omega), if_pos hi.1]
  split
  · rw [w64_id (x := f.2.2.1 - off) (by omega) (by omega), w64_id (by omega) (by omega)]
  · split
    · rw [w64_id (by omega) (by omega)]
    · rfl
end Go.Proofs.YtadamegddcadcaaGreatDoorPi

namespace Go.Proofs.YtadamegddcadcaaGreatDoorPi
open Go
set_option maxRecDepth 100000
set_option maxHeartbeats 1000000
set_option linter.unusedVariables false

/-! the document's expansion, in plain words -/
theorem rBefore (n : Nat) {f g : D_EFire} (h : f.2.1 = g.2.1) : Ok (A4before n (f, (g, ()))) (fun v => v.1 = true ↔ fLt f g) := by
  unfold A4before A4before_px
  simp only [cb_eq]
  unfold fLt
  refine Ok.dec (fun h1 => Ok.ret ?_) (fun h1 => ?_)
  · have h1 : f.2.2.1 < g.2.2.1 := h1
    simp only [true_iff]; omega
  · have h1 : ¬ f.2.2.1 < g.2.2.1 := h1
    by_cases h2 : f.2.2.1 = g.2.2.1
    · rw [if_pos h2]; exact Ok.ret (by simp only [decide_eq_true_iff]; omega)
    · rw [if_neg h2]; exact Ok.ret (by simp only [Bool.false_eq_true, false_iff]; omega)
theorem FireIn.of_rule {l : List D_api_Rule} {f : D_EFire} {r : D_api_Rule} (hf : FireIn l f) (hr : l[Int.toNat f.1]? = some r) : runs r f.2.1 ∧ f = mkF r f.1 f.2.1 := by
  obtain ⟨q, _, hq, hrun, e⟩ := hf
  obtain rfl : q = r := Option.some.inj (hq.symm.trans hr)
  exact ⟨hrun, e⟩
theorem insert_ok {l : List D_api_Rule} {y i : Int} {out : List D_EFire} {f : D_EFire} {k : Nat} (hm : ∀ g, g ∈ out ↔ FireIn l g ∧ g.2.1 = y ∧ g.1 < i) (hp : out.Pairwise fLt) (hf : FireIn l f) (hf1 : f.1 = i) (hf2 : f.2.1 = y)
    (hone : ∀ g, FireIn l g → g.1 = i → g.2.1 = y → g = f) (hlo : ∀ (j : Nat) g, j < k → out[j]? = some g → fLt g f) (hhi : ∀ g, out[k]? = some g → ¬ fLt g f) :
    (∀ g, g ∈ out.take k ++ f :: out.drop k ↔ FireIn l g ∧ g.2.1 = y ∧ g.1 < i + 1) ∧ (out.take k ++ f :: out.drop k).Pairwise fLt := by
  have hsplit := List.take_append_drop k out
  have hp2 := hp
  rw [← hsplit, List.pairwise_append] at hp2
  have hnot : ∀ g, g ∈ out → g ≠ f := fun g hg e => by have := ((hm g).1 hg).2.2; rw [e] at this; omega
  have lo : ∀ g, g ∈ out.take k → fLt g f := fun g hg => by
    obtain ⟨j, hj, rfl⟩ := List.mem_take_iff_getElem.1 hg
    exact hlo j _ (by omega) (List.getElem?_eq_getElem (by omega))
  have hi : ∀ g, g ∈ out.drop k → fLt f g := by
    cases hd : out.drop k with
    | nil => intro g hg; cases hg
    | cons g0 rest =>
      have hk0 : out[k]? = some g0 := by
        have : (out.drop k)[0]? = some g0 := by rw [hd]; rfl
        rw [List.getElem?_drop] at this; simpa using this
      have hg0 : fLt f g0 := by
        rcases fLt_tot hf ((hm g0).1 (List.mem_of_getElem? hk0)).1 with e | e | e
        · exact absurd e.symm (hnot g0 (List.mem_of_getElem? hk0))
        · exact e
        · exact absurd e (hhi g0 hk0)
      intro g hg
      rcases List.mem_cons.1 hg with e | e
      · rw [e]; exact hg0
      · have := hp2.2.1
        rw [hd, List.pairwise_cons] at this
        exact fLt_tr hg0 (this.1 g e)
  constructor
  · intro g
    have : g ∈ out.take k ++ f :: out.drop k ↔ g ∈ out ∨ g = f := by
      conv => rhs; rw [← hsplit]
      simp only [List.mem_append, List.mem_cons]
      constructor
      · rintro (h | h | h)
        · exact .inl (.inl h)
        · exact .inr h
        · exact .inl (.inr h)
      · rintro ((h | h) | h)
        · exact .inl h
        · exact .inr (.inr h)
        · exact .inr (.inl h)
    rw [this, hm]
    constructor
    · rintro (⟨a, b, c⟩ | rfl)
      · exact ⟨a, b, by omega⟩
      · exact ⟨hf, hf2, by omega⟩
    · rintro ⟨a, b, c⟩
      by_cases hgi : g.1 = i
      · exact .inr (hone g a hgi b)
      · exact .inl ⟨a, b, by omega⟩
  · rw [List.pairwise_append, List.pairwise_cons]
    refine ⟨hp2.1, ⟨hi, hp2.2.1⟩, fun a ha b hb => ?_⟩
    rcases List.mem_cons.1 hb with e | e
    · rw [e]; exact lo a ha
    · exact hp2.2.2 a ha b e
theorem rYear14 {n : Nat} (hn : 1000000 ≤ n) {l : List D_api_Rule} (hl : RulesB l) (y : Int) : Ok (A4year n (l, (y, ()))) (fun v => Fires l y y v.1 ∧ v.1.length ≤ l.length) := by
  unfold A4year A4year_px A4year_s1
  have hl' := hl
  obtain ⟨hlen, hall⟩ := hl
  refine rounds_ok (fun z => ∃ (i : Int) (out : List D_EFire), z = (l, y, i, out) ∧ (∀ g, g ∈ out ↔ FireIn l g ∧ g.2.1 = y ∧ g.1 < i) ∧ out.Pairwise fLt ∧ (out.length : Int) ≤ i ∧ 0 ≤ i ∧ i ≤ (l.length : Int)) (fun z => ((l.length : Int) - z.2.2.1).toNat) ?_ n _ ⟨0, [], rfl, fun g => ⟨fun h => (by cases h), fun ⟨q, _, h⟩ => by have := q.lt; omega⟩, List.Pairwise.nil, by simp, by omega, by omega⟩ (by show ((l.length : Int) - 0).toNat < n; omega)
  rintro rec z ⟨i, out, rfl, hm, hp, hol, i0, i1⟩ ih
  simp only [A4year_s2, A4year_p2, A4year_s5, A4year_p5, A4year_s4, A4year_p4, A4year_s3, A4year_p3, A4year_s0, A4year_p0]
  refine Ok.dec (fun hi => ?_) (fun hi => Ok.ret ⟨⟨fun g => (hm g).trans ⟨fun ⟨a, b, c⟩ => ⟨a, by omega, by omega⟩, fun ⟨a, b, c⟩ => ⟨a, by omega, by have := a.lt; have hi : ¬ i < (l.length : Int) := hi; omega⟩⟩, hp⟩, by show out.length ≤ l.length; omega⟩)
  have hi : i < (l.length : Int) := hi
  obtain ⟨r, hr⟩ : ∃ r, l[Int.toNat i]? = some r := ⟨_, List.getElem?_eq_getElem (show Int.toNat i < l.length by omega)⟩
  have hrb := hall r (List.mem_of_getElem? hr)
  simp only [hr, Option.bind_some, decide_eq_true i0, cond_true, rOf hn, cb_ne, cb_dec]
  have next : ∀ out' : List D_EFire, (∀ g, g ∈ out' ↔ FireIn l g ∧ g.2.1 = y ∧ g.1 < i + 1) → out'.Pairwise fLt → (out'.length : Int) ≤ i + 1 → Ok (rec (l, y, w64 (i + 1), out')) (fun v => Fires l y y v.1 ∧ v.1.length ≤ l.length) := fun out' h1 h2 h3 => by
    rw [w64_id (by omega) (by omega)]
    exact ih _ ⟨i + 1, out', rfl, h1, h2, h3, by omega, by omega⟩ (by show ((l.length : Int) - (i + 1)).toNat < ((l.length : Int) - i).toNat; omega)
  have skip : ¬ runs r y → Ok (rec (l, y, w64 (i + 1), out)) (fun v => Fires l y y v.1 ∧ v.1.length ≤ l.length) := fun hno =>
    next out (fun g => (hm g).trans ⟨fun ⟨a, b, c⟩ => ⟨a, b, by omega⟩, fun ⟨a, b, c⟩ => ⟨a, b, by
      by_cases hgi : g.1 = i
      · exact absurd (b ▸ (a.of_rule (hgi ▸ hr)).1) hno
      · omega⟩⟩) hp (by omega)
  have m1 := imax_or r.2.1 1
  have m2 := imin_or r.2.2.1 9999
  by_cases c1 : y < r.2.1
  · rw [if_pos c1]; exact skip fun q => by have := q.1; omega
  by_cases c2 : y > r.2.2.1
  · rw [if_neg c1, if_pos c2]; exact skip fun q => by have := q.2.1; omega
  by_cases c3 : y < 1
  · rw [if_neg c1, if_neg c2, if_pos c3]; exact skip fun q => by have := q.1; omega
  rw [if_neg c1, if_neg c2, if_neg c3]
  by_cases c4 : y > 9999
  · rw [if_pos c4]; exact skip fun q => by have := q.2.1; omega
  rw [if_neg c4]
  by_cases hk : (dayOf r.2.2.2.2.1 y r.2.2.2.1).2.1 = 0
  · rw [if_pos hk]
    have hrun : runs r y := ⟨by omega, by omega, hk⟩
    have hf := fireIn_mk i0 hr hrun
    have hb := dayOf_bd r.2.2.2.2.1 y r.2.2.2.1
    have hrb' := hrb
    obtain ⟨b1, b2, _⟩ := hrb'
    rw [w64_id (x := (dayOf r.2.2.2.2.1 y r.2.2.2.1).1 * 86400) (by omega) (by omega), w64_id (x := (dayOf r.2.2.2.2.1 y r.2.2.2.1).1 * 86400 + r.2.2.2.2.2.1.1) (by omega) (by omega)]
    show Ok (A4year_s6 n (A4year_s0 n) rec (A4year_s3 n (A4year_s0 n) rec) (l, y, i, (0 : Int), out, mkF r i y)) _
    have hone : ∀ g, FireIn l g → g.1 = i → g.2.1 = y → g = mkF r i y := fun g hg h1 h2 => by
      have := (hg.of_rule (h1 ▸ hr)).2
      rw [h1, h2] at this; exact this
    -- the place is found
    have put : ∀ k : Nat, k ≤ out.length → (∀ (j : Nat) g, j < k → out[j]? = some g → fLt g (mkF r i y)) → (∀ g, out[k]? = some g → ¬ fLt g (mkF r i y)) → Ok (A4year_s7 n (A4year_s0 n) rec (A4year_s3 n (A4year_s0 n) rec) (l, y, i, (k : Int), out, mkF r i y)) (fun v => Fires l y y v.1 ∧ v.1.length ≤ l.length) := fun k hk hlo hhi => by
      simp only [A4year_s7, A4year_p7, A4year_s3, A4year_p3, Int.toNat_natCast, List.drop_zero, List.nil_append, List.take_length]
      obtain ⟨q1, q2⟩ := insert_ok hm hp hf rfl rfl hone hlo hhi
      refine Ok.dec (fun _ => ?_) (fun h => absurd ⟨by omega, by omega⟩ h)
      refine Ok.dec (fun _ => ?_) (fun h => absurd ?_ h)
      refine Ok.dec (fun _ => ?_) (fun h => absurd ?_ h)
      refine Ok.dec (fun _ => ?_) (fun h => absurd ⟨by omega, by omega⟩ h)
      refine Ok.dec (fun _ => ?_) (fun h => absurd ?_ h)
      · refine next _ ?_ ?_ ?_
        · intro g; rw [← q1 g, List.append_assoc]; rfl
        · rw [List.append_assoc]; exact q2
        · simp only [List.length_append, List.length_take, List.length_drop, List.length_cons, List.length_nil]; omega
      · simp only [List.length_append, List.length_take, List.length_drop, List.length_cons, List.length_nil]; omega
      · simp only [List.length_take, List.length_cons, List.length_nil]; omega
      · simp only [List.length_take, List.length_nil]; omega
    unfold A4year_s6
    refine rounds_ok (fun z => ∃ k : Nat, z = (l, y, i, (k : Int), out, mkF r i y) ∧ k ≤ out.length ∧ ∀ (j : Nat) g, j < k → out[j]? = some g → fLt g (mkF r i y)) (fun z => ((out.length : Int) - z.2.2.2.1).toNat) ?_ n _ ⟨0, rfl, by omega, fun j g h => by omega⟩ (by show ((out.length : Int) - 0).toNat < n; omega)
    rintro rec2 z ⟨k, rfl, hkl, hlo⟩ ih2
    simp only [A4year_s8, A4year_p8, Int.toNat_natCast]
    refine Ok.dec (fun hlt => ?_) (fun hlt => put k hkl hlo fun g hg => ?_)
    · have hlt : (k : Int) < (out.length : Int) := hlt
      have hkl' : k < out.length := by omega
      refine Ok.dec (fun _ => ?_) (fun h => absurd ⟨by omega, by omega⟩ h)
      have hget : out[k]? = some out[k] := List.getElem?_eq_getElem hkl'
      rw [hget, Option.bind_some]
      have hgm := (hm out[k]).1 (List.getElem_mem hkl')
      refine Ok.bind (rBefore n (f := out[k]) (g := mkF r i y) hgm.2.1) fun v hv => ?_
      cases hvb : v.1
      · rw [cond_false]
        exact put k hkl hlo fun g hg q => by
          rw [hget] at hg
          obtain rfl := Option.some.inj hg
          rw [hv.2 q] at hvb; cases hvb
      · rw [cond_true, w64_id (by omega) (by omega)]
        refine ih2 _ ⟨k + 1, rfl, by omega, fun j g hj hg => ?_⟩ (by show ((out.length : Int) - (k + 1)).toNat < ((out.length : Int) - k).toNat; omega)
        by_cases hjk : j = k
        · subst hjk
          rw [hget] at hg
          obtain rfl := Option.some.inj hg
          exact hv.1 hvb
        · exact hlo j g (by omega) hg
    · have hlt : ¬ (k : Int) < (out.length : Int) := hlt
      have := (List.getElem?_eq_some_iff.1 hg).1
      omega
  · rw [if_neg hk]; exact skip fun q => hk q.2.2
end Go.Proofs.YtadamegddcadcaaGreatDoorPi

namespace Go.Proofs.YtadamegddcadcaaGreatDoorPi
open Go
set_option maxRecDepth 100000
set_option maxHeartbeats 1000000
set_option linter.unusedVariables false

theorem rLeast {n : Nat} (hn : 1000000 ≤ n) {l : List D_api_Rule} (hl : RulesB l) : Ok (A4least n (l, ())) (fun v => (1 ≤ v.1 ∧ v.1 ≤ 20000) ∧ ∀ f, FireIn l f → v.1 ≤ f.2.1) := by
  unfold A4least A4least_px A4least_s1
  obtain ⟨hlen, hall⟩ := hl
  refine rounds_ok (fun z => ∃ (a i : Int), z = (l, a, i) ∧ 0 ≤ i ∧ i ≤ (l.length : Int) ∧ (1 ≤ a ∧ a ≤ 20000) ∧ ∀ f, FireIn l f → f.1 < i → a ≤ f.2.1) (fun z => ((l.length : Int) - z.2.2).toNat) ?_ n _ ⟨10000, 0, rfl, by omega, by omega, by omega, fun f hf h => by have := hf.lt; omega⟩ (by show ((l.length : Int) - 0).toNat < n; omega)
  rintro rec z ⟨a, i, rfl, i0, i1, ha, hI⟩ ih
  simp only [A4least_s2, A4least_p2, A4least_s0, A4least_p0]
  refine Ok.dec (fun hi => ?_) (fun hi => Ok.ret ⟨ha, fun f hf => hI f hf (by have := hf.lt; have hi : ¬ i < (l.length : Int) := hi; omega)⟩)
  refine Ok.dec (fun _ => ?_) (fun h => absurd i0 h)
  refine Ok.bind (Ok.get i0 hi) fun r hr => ?_
  obtain ⟨_, _, _, _, a1, a2, _, _, _⟩ := hall r hr.1
  rw [w64_id (x := i + 1) (by omega) (by omega)]
  have q1 := imax_or r.2.1 1
  have q2 := imin_or a (imax r.2.1 1)
  refine ih _ ⟨_, i + 1, rfl, by omega, by omega, by omega, fun f hf h => ?_⟩ (by show ((l.length : Int) - (i + 1)).toNat < ((l.length : Int) - i).toNat; omega)
  by_cases hfi : f.1 = i
  · have := (hf.of_rule (hfi ▸ hr.2)).1.1; omega
  · have := hI f hf (by omega); omega
theorem last_max {l : List D_api_Rule} {y : Int} {fs : List D_EFire} (h : Fires l y y fs) (hne : 0 < fs.length) : ∃ f, fs[fs.length - 1]? = some f ∧ FireIn l f ∧ f.2.1 = y ∧ ∀ g, FireIn l g → g.2.1 = y → g = f ∨ fLt g f := by
  refine ⟨fs[fs.length - 1], List.getElem?_eq_getElem (by omega), ?_⟩
  have hm := (h.1 fs[fs.length - 1]).1 (List.getElem_mem (by omega))
  refine ⟨hm.1, by omega, fun g hg hgy => ?_⟩
  obtain ⟨j, hj, rfl⟩ := List.getElem_of_mem ((h.1 g).2 ⟨hg, by omega, by omega⟩)
  by_cases hjl : j = fs.length - 1
  · subst hjl; exact .inl rfl
  · exact .inr (List.pairwise_iff_getElem.1 h.2 j (fs.length - 1) hj (by omega) (by omega))
theorem rAhead {n : Nat} (hn : 1000000 ≤ n) {l : List D_api_Rule} (hl : RulesB l) {y : Int} (h0 : -30000 ≤ y) (h1 : y ≤ 30000) : Ok (A4ahead n (l, (y, ()))) (fun v => AheadY l y v.1) := by
  unfold A4ahead A4ahead_px
  refine Ok.bind (rSpan hn hl) fun sp hsp => ?_
  obtain ⟨_, hend, _, hb⟩ := hsp
  have main : ∀ y' : Int, -30000 ≤ y' → y' ≤ 30000 → (∀ f, FireIn l f → (f.2.1 < y' ↔ f.2.1 < y)) → Ok (A4ahead_s0 n (l, y')) (fun v => AheadY l y v.1) := by
    intro y' g0 g1 hy'
    unfold A4ahead_s0 A4ahead_p0 A4ahead_s2
    rw [w64_id (by omega) (by omega)]
    have m1 := imin_or (y' - 1) 9999
    refine rounds_ok (fun z => ∃ x : Int, z = (l, x) ∧ -30010 ≤ x ∧ x ≤ 9999 ∧ x < y' ∧ ∀ f, FireIn l f → f.2.1 < y → f.2.1 ≤ x) (fun z => (z.2 + 30020).toNat) ?_ n _ ⟨imin (y' - 1) 9999, rfl, by omega, by omega, by omega, fun f hf hfy => by have := (hy' f hf).2 hfy; have := hf.years; omega⟩ (by show (imin (y' - 1) 9999 + 30020).toNat < n; omega)
    rintro rec z ⟨x, rfl, x0, x1, x2, hx⟩ ih
    simp only [A4ahead_s3, A4ahead_p3, A4ahead_s1, A4ahead_p1]
    refine Ok.bind (rLeast hn hl) fun v hv => ?_
    obtain ⟨hv0, hv1⟩ := hv
    refine Ok.dec (fun hge => ?_) (fun hge => Ok.ret (.inl ⟨rfl, fun f hf hfy => ?_⟩))
    · have hge : x ≥ v.1 := hge
      refine Ok.bind (rYear14 hn hl x) fun w hw => ?_
      obtain ⟨hw, hwl⟩ := hw
      have hll := hl.1
      refine Ok.dec (fun hlen => ?_) (fun hlen => ?_)
      · have hlen : (w.1.length : Int) > 0 := hlen
        rw [w64_id (by omega) (by omega)]
        refine Ok.dec (fun _ => ?_) (fun h => absurd ⟨by omega, by omega⟩ h)
        obtain ⟨f, hf, hfin, hfx, hmax⟩ := last_max hw (by omega)
        have hf' : w.1[Int.toNat ((w.1.length : Int) - 1)]? = some f := by rw [← hf]; congr 1; omega
        rw [hf', Option.bind_some]
        have hflt := hfin.lt
        refine Ok.dec (fun _ => ?_) (fun h => absurd hflt.1 h)
        obtain ⟨r, _, hr, _⟩ := hfin.rule
        rw [hr, Option.bind_some]
        refine Ok.ret (.inr ⟨f, hfin, (hy' f hfin).1 (by omega), (saveOf_eq hr).symm, fun g hg hgy => ?_⟩)
        have := hx g hg hgy
        by_cases hgx : g.2.1 = x
        · exact hmax g hg hgx
        · exact .inr (.inl (by omega))
      · have hlen : ¬ (w.1.length : Int) > 0 := hlen
        rw [w64_id (by omega) (by omega)]
        refine ih _ ⟨x - 1, rfl, by omega, by omega, by omega, fun f hf hfy => ?_⟩ (by show (x - 1 + 30020).toNat < (x + 30020).toNat; omega)
        have := hx f hf hfy
        by_cases hfx : f.2.1 = x
        · have hm := (hw.1 f).2 ⟨hf, by omega, by omega⟩
          have := List.length_pos_of_mem hm
          omega
        · omega
    · have hge : ¬ x ≥ v.1 := hge
      have := hv1 f hf
      have := hx f hf hfy
      omega
  refine Ok.bif (fun he => ?_) (fun he => main y h0 h1 fun f hf => Iff.rfl)
  rw [w64_id (by omega) (by omega)]
  have m := imin_or y (sp.2.1 + 1)
  refine main (imin y (sp.2.1 + 1)) (by omega) (by omega) fun f hf => ?_
  obtain ⟨r, hrm, _, _, hto⟩ := hf.rule
  have := hend (by simpa using he) r hrm
  omega
def endS (l : List D_api_Rule) (s : Int) (fs : List D_EFire) : Int := fs.foldl (fun _ f => saveOf l f) s
theorem annot_append (l : List D_api_Rule) : ∀ (A B : List D_EFire) (s : Int), annot l s (A ++ B) = annot l s A ++ annot l (endS l s A) B
  | [], B, s => rfl
  | f :: A, B, s => by
    show setB f s :: annot l (saveOf l f) (A ++ B) = setB f s :: (annot l (saveOf l f) A ++ annot l (endS l (saveOf l f) A) B)
    rw [annot_append l A B]
theorem endS_append (l : List D_api_Rule) (A B : List D_EFire) (s : Int) : endS l s (A ++ B) = endS l (endS l s A) B := by
  unfold endS; rw [List.foldl_append]
theorem rFrom {n : Nat} (hn : 1000000 ≤ n) {l : List D_api_Rule} (hl : RulesB l) {a b : Int} (h0 : -30000 ≤ a) (h1 : a ≤ 30000) (h2 : -30000 ≤ b) (h3 : b ≤ 30000) : Ok (A4From n (l, (a, (b, ())))) (fun v => FromQ l a b v ∧ v.1.length < 1000000) := by
  unfold A4From A4From_px
  have hll := hl.1
  have m1 := imax_or a 1
  have m2 := imin_or b 9999
  simp only
  have hA : ∀ s, AheadY l (imax a 1) s ↔ AheadY l a s := fun s => AheadY.max
  have hF : ∀ fs, Fires l (imax a 1) (imin b 9999) fs → Fires l a b fs := fun fs h => ⟨fun f => (h.1 f).trans ⟨fun ⟨q, r, s⟩ => ⟨q, by omega, by omega⟩, fun ⟨q, r, s⟩ => ⟨q, by have := q.years; omega, by have := q.years; omega⟩⟩, h.2⟩
  generalize imax a 1 = lo at *
  generalize imin b 9999 = hi at *
  refine Ok.bind (rAhead hn hl (by omega) (by omega)) fun sv hs0 => ?_
  have hs0 : AheadY l lo sv.1 := hs0
  refine Ok.bind (rLeast hn hl) fun le hle => ?_
  obtain ⟨hle0, hle1⟩ := hle
  generalize sv.1 = s0 at *
  have m3 := imax_or lo le.1
  have start : Fires l lo (imax lo le.1 - 1) [] := ⟨fun f => ⟨fun h => (by cases h), fun ⟨q, r, s⟩ => by have := hle1 f q; omega⟩, List.Pairwise.nil⟩
  generalize imax lo le.1 = y0 at *
  unfold A4From_s1
  refine rounds_ok (fun z => ∃ (y : Int) (fs : List D_EFire), z = (l, hi, endS l s0 fs, y, annot l s0 fs) ∧ Fires l lo (y - 1) fs ∧ y0 ≤ y ∧ (y = y0 ∧ fs = [] ∨ y ≤ hi + 1) ∧ (fs.length : Int) ≤ 24 * (y - y0)) (fun z => (10000 - z.2.2.2.1).toNat) ?_ n _ ⟨y0, [], rfl, start, by omega, .inl ⟨rfl, rfl⟩, by simp⟩ (by show (10000 - y0).toNat < n; omega)
  rintro rec z ⟨y, fs, rfl, hf, hy0, hy1, hfl⟩ ih
  simp only [A4From_s2, A4From_p2]
  refine Ok.dec (fun hy => ?_) (fun hy => ?_)
  · have hy : y ≤ hi := hy
    refine Ok.bind (rYear14 hn hl y) fun w hw => ?_
    obtain ⟨hw, hwl⟩ := hw
    generalize w.1 = gs at *
    -- the year's fires are done
    have fin : Ok (A4From_s4 n (A4From_s0 n) rec (A4From_s3 n (A4From_s0 n) rec) (l, hi, endS l s0 (fs ++ gs), y, annot l s0 fs, annot l (endS l s0 fs) gs)) (fun v => FromQ l a b v ∧ v.1.length < 1000000) := by
      simp only [A4From_s4, A4From_p4, A4From_s3, A4From_p3]
      refine Ok.dec (fun _ => ?_) (fun h => absurd ?_ h)
      · rw [w64_id (by omega) (by omega), ← annot_append]
        refine ih _ ⟨y + 1, fs ++ gs, rfl, ⟨fun f => ?_, ?_⟩, by omega, .inr (by omega), by rw [List.length_append]; omega⟩ (by show (10000 - (y + 1)).toNat < (10000 - y).toNat; omega)
        · rw [List.mem_append, hf.1 f, hw.1 f]
          constructor
          · rintro (⟨q, r, s⟩ | ⟨q, r, s⟩)
            · exact ⟨q, by omega, by omega⟩
            · exact ⟨q, by omega, by omega⟩
          · rintro ⟨q, r, s⟩
            by_cases hfy : f.2.1 = y
            · exact .inr ⟨q, by omega, by omega⟩
            · exact .inl ⟨q, r, by omega⟩
        · rw [List.pairwise_append]
          refine ⟨hf.2, hw.2, fun x hx z hz => .inl ?_⟩
          have := ((hf.1 x).1 hx).2.2
          have := ((hw.1 z).1 hz).2.1
          omega
      · rw [annot_length, annot_length]; omega
    unfold A4From_s5
    refine rounds_ok (fun z => ∃ (s : Int) (A B : List D_EFire), z = (l, hi, s, y, (A.length : Int), annot l s0 fs, A ++ B) ∧ A ++ annot l s B = annot l (endS l s0 fs) gs ∧ endS l s B = endS l s0 (fs ++ gs) ∧ A.length + B.length = gs.length ∧ ∀ f, f ∈ B → FireIn l f) (fun z => ((gs.length : Int) - z.2.2.2.2.1).toNat) ?_ n _ ⟨endS l s0 fs, [], gs, rfl, rfl, (endS_append l fs gs s0).symm, by simp, fun f h => ((hw.1 f).1 h).1⟩ (by show ((gs.length : Int) - 0).toNat < n; omega)
    rintro rec2 z ⟨s, A, B, rfl, hAB, hend, hlen2, hB⟩ ih2
    simp only [A4From_s6, A4From_p6, Int.toNat_natCast]
    have la : (A ++ B).length = gs.length := by rw [List.length_append]; exact hlen2
    cases B with
    | nil =>
      refine Ok.dec (fun hi => absurd hi ?_) (fun _ => ?_)
      · simp at hlen2; show ¬ (A.length : Int) < ((A ++ ([] : List D_EFire)).length : Int); rw [la]; omega
      · have e1 : A ++ ([] : List D_EFire) = annot l (endS l s0 fs) gs := by rw [← hAB]; rfl
        have e2 : s = endS l s0 (fs ++ gs) := by rw [← hend]; rfl
        rw [e1, e2]
        exact fin
    | cons f B =>
      have hf0 := hB f List.mem_cons_self
      obtain ⟨r, hrm, hr, _⟩ := hf0.rule
      have hAl : A.length < gs.length := by simp at hlen2; omega
      refine Ok.dec (fun hi => ?_) (fun h => absurd (show (A.length : Int) < ((A ++ f :: B).length : Int) by rw [la]; omega) h)
      refine Ok.dec (fun hc => ?_) (fun hc => absurd ⟨by omega, by rw [la]; omega⟩ hc)
      rw [get_mid, Option.bind_some]
      simp only [set_mid]
      refine Ok.dec (fun hc => ?_) (fun hc => absurd ⟨by omega, by simp only [List.length_append, List.length_cons]; omega⟩ hc)
      rw [get_mid, Option.bind_some]
      refine Ok.dec (fun _ => ?_) (fun h => absurd hf0.lt.1 h)
      show Ok ((l[Int.toNat f.1]?).bind _) _
      rw [hr, Option.bind_some, w64_id (by omega) (by omega)]
      refine ih2 _ ⟨r.2.2.2.2.2.2.1, A ++ [setB f s], B, ?_, ?_, ?_, ?_, fun g hg => hB g (List.mem_cons_of_mem _ hg)⟩ (by show ((gs.length : Int) - (A.length + 1)).toNat < ((gs.length : Int) - A.length).toNat; omega)
      · rw [List.append_assoc, List.length_append]; rfl
      · rw [← hAB, ← saveOf_eq hr, List.append_assoc]; rfl
      · rw [← hend, ← saveOf_eq hr]; rfl
      · simp only [List.length_append, List.length_cons, List.length_nil] at hlen2 ⊢; omega
  · have hy : ¬ y ≤ hi := hy
    simp only [A4From_s0, A4From_p0]
    refine Ok.ret ⟨⟨fs, s0, hF fs ⟨fun f => ?_, hf.2⟩, (hA s0).1 hs0, rfl⟩, by show (annot l s0 fs).length < 1000000; rw [annot_length]; omega⟩
    rcases hy1 with ⟨rfl, rfl⟩ | hy1
    · refine (hf.1 f).trans ⟨fun ⟨q, r, s⟩ => ?_, fun ⟨q, r, s⟩ => ⟨q, r, by omega⟩⟩
      have := (hf.1 f).2 ⟨q, r, s⟩
      cases this
    · refine (hf.1 f).trans ⟨fun ⟨q, r, s⟩ => ⟨q, r, by omega⟩, fun ⟨q, r, s⟩ => ⟨q, r, by omega⟩⟩
theorem rYearF {n : Nat} (hn : 1000000 ≤ n) {l : List D_api_Rule} (hl : RulesB l) {y : Int} (h0 : -30000 ≤ y) (h1 : y ≤ 30000) : Ok (A4Year n (l, (y, ()))) (fun v => FromQ l y y v ∧ v.1.length < 1000000) := by
  unfold A4Year A4Year_px
  exact Ok.bind (rFrom hn hl h0 h1 h0 h1) fun v hv => Ok.ret hv
end Go.Proofs.YtadamegddcadcaaGreatDoorPi

namespace Go.Proofs.YtadamegddcadcaaGreatDoorPi
open Go
set_option maxRecDepth 100000
set_option maxHeartbeats 1000000
set_option linter.unusedVariables false

/-! the letter ahead of all fires -/
def LetQ (l : List D_api_Rule) (t : ByteArray) : Prop :=
  (t = (⟨#[]⟩ : ByteArray) ∧ ∀ f, FireIn l f → saveOf l f ≠ 0) ∨ ∃ f r, FireIn l f ∧ saveOf l f = 0 ∧ l[Int.toNat f.1]? = some r ∧ t = r.2.2.2.2.2.2.2.1 ∧ ∀ g, FireIn l g → saveOf l g = 0 → g = f ∨ fLt f g
theorem LetQ.uniq {l : List D_api_Rule} {t u : ByteArray} (h : LetQ l t) (k : LetQ l u) : t = u := by
  rcases h with ⟨rfl, h⟩ | ⟨f, r, hf, hs, hr, rfl, hm⟩
  · rcases k with ⟨rfl, _⟩ | ⟨g, q, hg, hs, _⟩
    · rfl
    · exact absurd hs (h g hg)
  · rcases k with ⟨_, k⟩ | ⟨g, q, hg, hs', hq, rfl, hm'⟩
    · exact absurd hs (k f hf)
    · have : f = g := by
        rcases hm g hg hs' with e | e
        · exact e.symm
        rcases hm' f hf hs with e' | e'
        · exact e'
        exact absurd (fLt_tr e e') (fLt_irr _)
      subst this
      rw [show r = q from Option.some.inj (hr.symm.trans hq)]
/-- The first fire of the first so many rules that save nothing. -/
def BestI (l : List D_api_Rule) (i : Int) (o : Option D_EFire) : Prop :=
  (o = none ∧ ∀ f, FireIn l f → f.1 < i → saveOf l f ≠ 0) ∨ ∃ f, o = some f ∧ FireIn l f ∧ f.1 < i ∧ saveOf l f = 0 ∧ ∀ g, FireIn l g → g.1 < i → saveOf l g = 0 → g = f ∨ fLt f g
theorem BestI.fin {l : List D_api_Rule} {i : Int} {o : Option D_EFire} (h : BestI l i o) (hi : (l.length : Int) ≤ i) (t : ByteArray) (h0 : o = none → t = (⟨#[]⟩ : ByteArray)) (h1 : ∀ f, o = some f → ∃ r, l[Int.toNat f.1]? = some r ∧ t = r.2.2.2.2.2.2.2.1) : LetQ l t := by
  rcases h with ⟨ho, h⟩ | ⟨f, ho, hf, hfi, hs, h⟩
  · exact .inl ⟨h0 ho, fun f hf => h f hf (by have := hf.lt; omega)⟩
  · obtain ⟨r, hr, ht⟩ := h1 f ho
    exact .inr ⟨f, r, hf, hs, hr, ht, fun g hg hgs => h g hg (by have := hg.lt; omega) hgs⟩
theorem BestI.skip {l : List D_api_Rule} {i : Int} {o : Option D_EFire} (h : BestI l i o) (hno : ∀ f, FireIn l f → f.1 = i → saveOf l f ≠ 0) : BestI l (i + 1) o := by
  rcases h with ⟨ho, h⟩ | ⟨f, ho, hf, hfi, hs, h⟩
  · exact .inl ⟨ho, fun f hf hlt => by
      by_cases hfi : f.1 = i
      · exact hno f hf hfi
      · exact h f hf (by omega)⟩
  · exact .inr ⟨f, ho, hf, by omega, hs, fun g hg hlt hgs => by
      by_cases hgi : g.1 = i
      · exact absurd hgs (hno g hg hgi)
      · exact h g hg (by omega) hgs⟩
theorem BestI.take {l : List D_api_Rule} {i : Int} {o : Option D_EFire} {f : D_EFire} (h : BestI l i o) (hf : FireIn l f) (hfi : f.1 = i) (hs : saveOf l f = 0) (hfirst : ∀ g, FireIn l g → g.1 = i → g = f ∨ fLt f g) (hlt : ∀ b, o = some b → fLt f b) : BestI l (i + 1) (some f) := by
  refine .inr ⟨f, rfl, hf, by omega, hs, fun g hg hgi hgs => ?_⟩
  by_cases hq : g.1 = i
  · exact hfirst g hg hq
  rcases h with ⟨ho, h⟩ | ⟨b, ho, hb, hbi, hbs, h⟩
  · exact absurd hgs (h g hg (by omega))
  · rcases h g hg (by omega) hgs with e | e
    · rw [e]; exact .inr (hlt b ho)
    · exact .inr (fLt_tr (hlt b ho) e)
theorem BestI.keep {l : List D_api_Rule} {i : Int} {b f : D_EFire} (h : BestI l i (some b)) (hf : FireIn l f) (hfi : f.1 = i) (hfirst : ∀ g, FireIn l g → g.1 = i → g = f ∨ fLt f g) (hlt : ¬ fLt f b) : BestI l (i + 1) (some b) := by
  rcases h with ⟨ho, h⟩ | ⟨b', ho, hb, hbi, hbs, h⟩
  · cases ho
  · obtain rfl := Option.some.inj ho
    refine .inr ⟨b, rfl, hb, by omega, hbs, fun g hg hgi hgs => ?_⟩
    by_cases hq : g.1 = i
    · have hbf : fLt b f := by
        rcases fLt_tot hb hf with e | e | e
        · rw [e] at hbi; omega
        · exact e
        · exact absurd e hlt
      rcases hfirst g hg hq with e | e
      · rw [e]; exact .inr hbf
      · exact .inr (fLt_tr hbf e)
    · exact h g hg (by omega) hgs
/-- The rule's first fire, found by looking from its first year on. -/
theorem first_fire {l : List D_api_Rule} {r : D_api_Rule} {i x : Int} (i0 : 0 ≤ i) (hr : l[Int.toNat i]? = some r) (hrun : runs r x) (hno : ∀ x', imax r.2.1 1 ≤ x' → x' < x → ¬ runs r x') : ∀ g, FireIn l g → g.1 = i → g = mkF r i x ∨ fLt (mkF r i x) g := by
  intro g hg hgi
  obtain ⟨q, e⟩ := hg.of_rule (hgi ▸ hr)
  rw [hgi] at e
  by_cases hx : g.2.1 = x
  · left; rw [e, hx]
  · right
    refine .inl ?_
    show x < g.2.1
    rcases Int.lt_or_lt_of_ne hx with h | h
    · exact absurd q (hno _ q.1 h)
    · exact h
/-- A rule without a fire in its first nine years has none. -/
theorem no_fire {r : D_api_Rule} {k : Int} (hno : ∀ x', imax r.2.1 1 ≤ x' → x' < imax r.2.1 1 + k → ¬ runs r x') (h : k > 8 ∨ imin r.2.2.1 9999 < imax r.2.1 1 + k) (y : Int) : ¬ runs r y := by
  intro hy
  by_cases h8 : k > 8
  · by_cases h9 : imax r.2.1 1 + 8 ≤ imin r.2.2.1 9999
    · exact silent (c := imax r.2.1 1) (Int.le_refl _) h9 (fun x a b => hno x a (by omega)) y hy
    · exact hno y hy.1 (by have := hy.2.1; omega) hy
  · exact hno y hy.1 (by have := hy.2.1; omega) hy
theorem pLetter {n : Nat} (hn : 1000000 ≤ n) {l : List D_api_Rule} (hl : RulesB l) : Ok (ELetter n (l, ())) (fun v => LetQ l v.1) := by
  unfold ELetter ELetter_px ELetter_s1
  obtain ⟨hlen, hall⟩ := hl
  have fin : ∀ (best : Option D_EFire) (i : Int), BestI l i best → (l.length : Int) ≤ i → Ok (ELetter_s0 n (l, best)) (fun v => LetQ l v.1) := by
    intro best i hb hi
    simp only [ELetter_s0, ELetter_p0]
    cases best with
    | none => exact Ok.ret (hb.fin hi _ (fun _ => rfl) (fun f h => by cases h))
    | some f =>
      simp only [Option.isNone_some, cond_false, Option.bind_some]
      have hf : FireIn l f := by
        rcases hb with ⟨h, _⟩ | ⟨g, h, hg, _⟩
        · cases h
        · obtain rfl := Option.some.inj h; exact hg
      obtain ⟨r, _, hr, _⟩ := hf.rule
      rw [hr, Option.bind_some]
      exact Ok.dec (fun _ => Ok.ret (hb.fin hi _ (fun h => by cases h) (fun g h => by obtain rfl := Option.some.inj h; exact ⟨r, hr, rfl⟩))) (fun h => absurd hf.lt.1 h)
  refine rounds_ok (fun z => ∃ (best : Option D_EFire) (i : Int), z = (l, best, l, (l.length : Int), i) ∧ BestI l i best ∧ 0 ≤ i ∧ i ≤ (l.length : Int)) (fun z => ((l.length : Int) - z.2.2.2.2).toNat) ?_ n _ ⟨none, 0, rfl, .inl ⟨rfl, fun f hf h => by have := hf.lt; omega⟩, by omega, by omega⟩ (by show ((l.length : Int) - 0).toNat < n; omega)
  rintro rec z ⟨best, i, rfl, hb, i0, i1⟩ ih
  simp only [ELetter_s2, ELetter_p2]
  refine Ok.dec (fun hi => ?_) (fun hi => fin best i hb (by have hi : ¬ i < (l.length : Int) := hi; omega))
  refine Ok.dec (fun _ => ?_) (fun h => absurd i0 h)
  refine Ok.bind (Ok.get i0 hi) fun r hr => ?_
  have hrb := hall r hr.1
  have hrb' := hrb
  obtain ⟨_, _, _, _, a1, a2, a3, a4, _⟩ := hrb'
  rw [eFirst, Option.bind_some]
  have next : ∀ b' : Option D_EFire, BestI l (i + 1) b' → Ok (ELetter_s3 n (ELetter_s0 n) rec (l, b', l, (l.length : Int), i)) (fun v => LetQ l v.1) := fun b' h => by
    simp only [ELetter_s3, ELetter_p3]
    rw [w64_id (by omega) (by omega)]
    exact ih _ ⟨b', i + 1, rfl, h, by omega, by omega⟩ (by show ((l.length : Int) - (i + 1)).toNat < ((l.length : Int) - i).toNat; omega)
  have hsave : ∀ f : D_EFire, f.1 = i → saveOf l f = r.2.2.2.2.2.2.1 := fun f h => saveOf_eq (by rw [h]; exact hr.2)
  have m1 := imax_or r.2.1 1
  have nine : ∀ k : Int, (∀ x', imax r.2.1 1 ≤ x' → x' < imax r.2.1 1 + k → ¬ runs r x') → (k > 8 ∨ imin r.2.2.1 9999 < imax r.2.1 1 + k) → BestI l (i + 1) best := fun k h1 h2 =>
    hb.skip fun f hf hfi _ => no_fire h1 h2 f.2.1 (hf.of_rule (hfi ▸ hr.2)).1
  unfold ELetter_s4
  refine rounds_ok (fun z => ∃ k : Int, z = (l, best, i, imax r.2.1 1 + k, l, (l.length : Int), i, r, r) ∧ 0 ≤ k ∧ k ≤ 9 ∧ ∀ x', imax r.2.1 1 ≤ x' → x' < imax r.2.1 1 + k → ¬ runs r x') (fun z => (imax r.2.1 1 + 9 - z.2.2.2.1).toNat) ?_ n _ ⟨0, by simp, by omega, by omega, fun x' a b => by omega⟩ (by show (imax r.2.1 1 + 9 - imax r.2.1 1).toNat < n; omega)
  rintro rec2 z ⟨k, rfl, k0, k1, hno⟩ ih2
  simp only [ELetter_s5, ELetter_p5, eFirst, eLast, Option.bind_some]
  rw [w64_id (x := imax r.2.1 1 + 8) (by omega) (by omega), w64_id (x := imax r.2.1 1 + k + 1) (by omega) (by omega)]
  have m2 := imin_or (imin r.2.2.1 9999) (imax r.2.1 1 + 8)
  refine Ok.dec (fun hk => ?_) (fun hk => next best (nine k hno (by have hk : ¬ imax r.2.1 1 + k ≤ imin (imin r.2.2.1 9999) (imax r.2.1 1 + 8) := hk; omega)))
  rw [cb_eq]
  by_cases hs0 : r.2.2.2.2.2.2.1 = 0
  · rw [if_pos hs0]
    refine Ok.bind (pFire n hrb i _) fun v hv => ?_
    rcases hv with ⟨hvb, hrun, hve⟩ | ⟨hvb, hnr⟩
    · rw [hvb, Bool.not_true, cond_false]
      have hf : FireIn l v.1 := by rw [hve]; exact fireIn_mk i0 hr.2 hrun
      have hfi : v.1.1 = i := by rw [hve]; rfl
      have hff : ∀ g, FireIn l g → g.1 = i → g = v.1 ∨ fLt v.1 g := by rw [hve]; exact first_fire i0 hr.2 hrun (fun x' a b => hno x' a b)
      have hsv : saveOf l v.1 = 0 := by rw [hsave _ hfi]; exact hs0
      cases best with
      | none => exact next _ (hb.take hf hfi hsv hff (fun b h => by cases h))
      | some b =>
        simp only [Option.isNone_some, cond_false, Option.bind_some]
        rw [cOrder n (by omega), Option.bind_some]
        exact Ok.dec (fun h => next _ (hb.take hf hfi hsv hff (fun b' hb' => by obtain rfl := Option.some.inj hb'; exact (order_lt _ _).1 h))) (fun h => next _ (hb.keep hf hfi hff (fun q => h ((order_lt _ _).2 q))))
    · rw [hvb, Bool.not_false, cond_true]
      refine ih2 _ ⟨k + 1, by rw [Int.add_assoc], by omega, by omega, fun x' a b => ?_⟩ (by show (imax r.2.1 1 + 9 - (imax r.2.1 1 + k + 1)).toNat < (imax r.2.1 1 + 9 - (imax r.2.1 1 + k)).toNat; omega)
      by_cases hx : x' = imax r.2.1 1 + k
      · rw [hx]; exact hnr
      · exact hno x' a (by omega)
  · rw [if_neg hs0]
    exact next best (hb.skip fun f hf hfi => by rw [hsave f hfi]; exact hs0)
theorem year_one {r : D_api_Rule} {y : Int} {fs : List D_EFire} (h : Fires [r] y y fs) : (fs = [] ∧ ¬ runs r y) ∨ (fs = [mkF r 0 y] ∧ runs r y) := by
  have one : ∀ f, FireIn [r] f → f.1 = 0 := fun f hf => by have := hf.lt; simp at this; omega
  by_cases hr : runs r y
  · right
    refine ⟨h.uniq ⟨fun f => ?_, List.pairwise_singleton _ _⟩, hr⟩
    rw [List.mem_singleton]
    constructor
    · rintro rfl
      exact ⟨fireIn_mk (by omega) rfl hr, Int.le_refl _, Int.le_refl _⟩
    · rintro ⟨q, a, b⟩
      have e := one f q
      have := (q.of_rule (r := r) (by rw [e]; rfl)).2
      rw [e, show f.2.1 = y by omega] at this
      exact this
  · left
    refine ⟨h.uniq ⟨fun f => ⟨fun h => (by cases h), fun ⟨q, a, b⟩ => ?_⟩, List.Pairwise.nil⟩, hr⟩
    have e := one f q
    have := (q.of_rule (r := r) (by rw [e]; rfl)).1
    rw [show f.2.1 = y by omega] at this
    exact absurd this hr
theorem rLetter {n : Nat} (hn : 1000000 ≤ n) {l : List D_api_Rule} (hl : RulesB l) : Ok (A4Letter n (l, ())) (fun v => LetQ l v.1) := by
  unfold A4Letter A4Letter_px A4Letter_s1
  obtain ⟨hlen, hall⟩ := hl
  let J : Option D_EFire → ByteArray → Bool → D_EFire → Prop := fun o t is b => (o = none ∧ t = (⟨#[]⟩ : ByteArray) ∧ is = false) ∨ (o = some b ∧ is = true ∧ ∃ r, l[Int.toNat b.1]? = some r ∧ t = r.2.2.2.2.2.2.2.1)
  refine rounds_ok (fun z => ∃ (o : Option D_EFire) (t : ByteArray) (is : Bool) (i : Int) (b : D_EFire), z = (l, t, is, i, b) ∧ BestI l i o ∧ J o t is b ∧ 0 ≤ i ∧ i ≤ (l.length : Int)) (fun z => ((l.length : Int) - z.2.2.2.1).toNat) ?_ n _ ⟨none, _, false, 0, _, rfl, .inl ⟨rfl, fun f hf h => by have := hf.lt; omega⟩, .inl ⟨rfl, rfl, rfl⟩, by omega, by omega⟩ (by show ((l.length : Int) - 0).toNat < n; omega)
  rintro rec z ⟨o, t, is, i, b, rfl, hb, hJ, i0, i1⟩ ih
  simp only [A4Letter_s2, A4Letter_p2, A4Letter_s0, A4Letter_p0]
  refine Ok.dec (fun hi => ?_) (fun hi => Ok.ret (hb.fin (by have hi : ¬ i < (l.length : Int) := hi; omega) t (fun h => ?_) (fun f h => ?_)))
  · have hi : i < (l.length : Int) := hi
    obtain ⟨r, hr⟩ : ∃ r, l[Int.toNat i]? = some r := ⟨_, List.getElem?_eq_getElem (show Int.toNat i < l.length by omega)⟩
    have hrb := hall r (List.mem_of_getElem? hr)
    have hrb' := hrb
    obtain ⟨_, _, _, _, a1, a2, a3, a4, _⟩ := hrb'
    simp only [hr, Option.bind_some, decide_eq_true i0, cond_true, cb_ne]
    have next : ∀ o' t' is' b', BestI l (i + 1) o' → J o' t' is' b' → Ok (A4Letter_s3 n (A4Letter_s0 n) rec (l, t', is', i, b')) (fun v => LetQ l v.1) := fun o' t' is' b' h h' => by
      simp only [A4Letter_s3, A4Letter_p3]
      rw [w64_id (by omega) (by omega)]
      exact ih _ ⟨o', t', is', i + 1, b', rfl, h, h', by omega, by omega⟩ (by show ((l.length : Int) - (i + 1)).toNat < ((l.length : Int) - i).toNat; omega)
    have hsave : ∀ f : D_EFire, f.1 = i → saveOf l f = r.2.2.2.2.2.2.1 := fun f h => saveOf_eq (by rw [h]; exact hr)
    by_cases hs0 : r.2.2.2.2.2.2.1 = 0
    · rw [if_pos hs0]
      have m1 := imax_or r.2.1 1
      have nine : ∀ k : Int, (∀ x', imax r.2.1 1 ≤ x' → x' < imax r.2.1 1 + k → ¬ runs r x') → (k > 8 ∨ imin r.2.2.1 9999 < imax r.2.1 1 + k) → BestI l (i + 1) o := fun k h1 h2 =>
        hb.skip fun f hf hfi _ => no_fire h1 h2 f.2.1 (hf.of_rule (hfi ▸ hr)).1
      unfold A4Letter_s4
      refine rounds_ok (fun z => ∃ k : Int, z = (l, t, is, i, [r], imax r.2.1 1 + k, b) ∧ 0 ≤ k ∧ k ≤ 9 ∧ ∀ x', imax r.2.1 1 ≤ x' → x' < imax r.2.1 1 + k → ¬ runs r x') (fun z => (imax r.2.1 1 + 9 - z.2.2.2.2.2.1).toNat) ?_ n _ ⟨0, by simp, by omega, by omega, fun x' a b => by omega⟩ (by show (imax r.2.1 1 + 9 - imax r.2.1 1).toNat < n; omega)
      rintro rec2 z ⟨k, rfl, k0, k1, hno⟩ ih2
      simp only [A4Letter_s5, A4Letter_p5, hr, Option.bind_some, decide_eq_true i0, cond_true]
      have m2 := imin_or r.2.2.1 9999
      rw [w64_id (x := imax r.2.1 1 + k - imax r.2.1 1) (by omega) (by omega)]
      refine Ok.dec (fun hk => Ok.dec (fun hk8 => ?_) (fun hk8 => next o t is b (nine k hno (by have hk8 : ¬ imax r.2.1 1 + k - imax r.2.1 1 ≤ 8 := hk8; omega)) hJ)) (fun hk => next o t is b (nine k hno (by have hk : ¬ imax r.2.1 1 + k ≤ imin r.2.2.1 9999 := hk; omega)) hJ)
      have hk8 : imax r.2.1 1 + k - imax r.2.1 1 ≤ 8 := hk8
      refine Ok.bind (rYear14 hn (l := [r]) ⟨by simp, fun q hq => by rw [List.mem_singleton.1 hq]; exact hrb⟩ _) fun w hw => ?_
      rcases year_one hw.1 with ⟨e, hnr⟩ | ⟨e, hrun⟩
      · rw [e]
        show Ok (A4Letter_s6 n (A4Letter_s0 n) rec (A4Letter_s3 n (A4Letter_s0 n) rec) rec2 (l, t, is, i, [r], imax r.2.1 1 + k, b)) _
        simp only [A4Letter_s6, A4Letter_p6]
        rw [w64_id (by omega) (by omega)]
        refine ih2 _ ⟨k + 1, by rw [Int.add_assoc], by omega, by omega, fun x' a b => ?_⟩ (by show (imax r.2.1 1 + 9 - (imax r.2.1 1 + k + 1)).toNat < (imax r.2.1 1 + 9 - (imax r.2.1 1 + k)).toNat; omega)
        by_cases hx : x' = imax r.2.1 1 + k
        · rw [hx]; exact hnr
        · exact hno x' a (by omega)
      · rw [e]
        have hf := fireIn_mk (l := l) i0 hr hrun
        have hff := first_fire i0 hr hrun (fun x' a b => hno x' a b)
        have hsv : saveOf l (mkF r i (imax r.2.1 1 + k)) = 0 := by rw [hsave _ rfl]; exact hs0
        have yes : BestI l (i + 1) (some (mkF r i (imax r.2.1 1 + k))) → Ok (A4Letter_s7 n (A4Letter_s0 n) rec (A4Letter_s3 n (A4Letter_s0 n) rec) rec2 (A4Letter_s6 n (A4Letter_s0 n) rec (A4Letter_s3 n (A4Letter_s0 n) rec) rec2) (l, t, is, i, true, b, [mkF r i (imax r.2.1 1 + k)])) (fun v => LetQ l v.1) := fun h => by
          simp only [A4Letter_s7, A4Letter_p7, hr, Option.bind_some, decide_eq_true i0, cond_true]
          exact next (some _) _ _ _ h (.inr ⟨rfl, rfl, r, hr, rfl⟩)
        have no : BestI l (i + 1) o → Ok (A4Letter_s7 n (A4Letter_s0 n) rec (A4Letter_s3 n (A4Letter_s0 n) rec) rec2 (A4Letter_s6 n (A4Letter_s0 n) rec (A4Letter_s3 n (A4Letter_s0 n) rec) rec2) (l, t, is, i, false, b, [mkF r i (imax r.2.1 1 + k)])) (fun v => LetQ l v.1) := fun h => by
          simp only [A4Letter_s7, A4Letter_p7, cond_false]
          exact next o t is b h hJ
        generalize A4Letter_s7 n (A4Letter_s0 n) rec (A4Letter_s3 n (A4Letter_s0 n) rec) rec2 (A4Letter_s6 n (A4Letter_s0 n) rec (A4Letter_s3 n (A4Letter_s0 n) rec) rec2) = k7 at *
        show Ok (bif (!is) then k7 (l, t, is, i, true, b, [mkF r i (imax r.2.1 1 + k)]) else bif decide (imax r.2.1 1 + k < b.2.1) then k7 (l, t, is, i, true, b, [mkF r i (imax r.2.1 1 + k)]) else bif (imax r.2.1 1 + k == b.2.1) then (A4before n (mkF r i (imax r.2.1 1 + k), (b, ()))).bind fun v22 => k7 (l, t, is, i, v22.1, b, [mkF r i (imax r.2.1 1 + k)]) else k7 (l, t, is, i, false, b, [mkF r i (imax r.2.1 1 + k)])) _
        rcases hJ with ⟨rfl, _, rfl⟩ | ⟨rfl, rfl, _⟩
        · exact yes (hb.take hf rfl hsv hff (fun b h => by cases h))
        · simp only [Bool.not_true, cond_false, cb_eq]
          refine Ok.dec (fun hlt => yes (hb.take hf rfl hsv hff (fun b' h => by obtain rfl := Option.some.inj h; exact .inl hlt))) (fun hlt => ?_)
          by_cases he : imax r.2.1 1 + k = b.2.1
          · rw [if_pos he]
            refine Ok.bind (rBefore n (f := mkF r i (imax r.2.1 1 + k)) (g := b) he) fun v hv => ?_
            cases hvb : v.1
            · exact no (hb.keep hf rfl hff (fun q => by rw [hv.2 q] at hvb; cases hvb))
            · exact yes (hb.take hf rfl hsv hff (fun b' h => by obtain rfl := Option.some.inj h; exact hv.1 hvb))
          · rw [if_neg he]
            exact no (hb.keep hf rfl hff (fun q => by
              rcases q with q | q
              · exact hlt q
              · exact he q.1))
    · rw [if_neg hs0]
      exact next o t is b (hb.skip fun f hf hfi => by rw [hsave f hfi]; exact hs0) hJ
  · rcases hJ with ⟨_, h2, _⟩ | ⟨h1, _⟩
    · exact h2
    · rw [h] at h1; cases h1
  · rcases hJ with ⟨h1, _⟩ | ⟨h1, _, r, hr, ht⟩
    · rw [h] at h1; cases h1
    · rw [h] at h1; obtain rfl := Option.some.inj h1; exact ⟨r, hr, ht⟩
end Go.Proofs.YtadamegddcadcaaGreatDoorPi
