import Derived.Test.YtedenojeljjnaaaGreatDoorPiB
import Derived.KernelRfl
import Derived.WideShapes
import Derived.ChangeShapes
import Derived.ChangeArms
import Derived.ReadAgain
import Derived.Recover
import Derived.Lib.AppendStr
import Derived.Lib.Builder
import Derived.Lib.UnsafeStr
set_option linter.unusedVariables false
namespace Go.Proofs.YtedenojeljjnaaaGreatDoorPi
open Go

def Env.cut (E : Env) (nb : Nat) : Env := { E with β := fun i => if i < nb then E.β i else none, τ := fun i => if i < nb then E.τ i else none }
theorem cut_β {E : Env} {nb i : Nat} (h : i < nb) : (E.cut nb).β i = E.β i := by show (if i < nb then _ else _) = _; rw [if_pos h]
theorem cut_τ {E : Env} {nb i : Nat} (h : i < nb) : (E.cut nb).τ i = E.τ i := by show (if i < nb then _ else _) = _; rw [if_pos h]
theorem rep_low {E : Env} {nb : Nat} {t : Ty} {x : t.den} {cs : List Value} (h : t.on (fun i => decide (i < nb)) = true) (r : rep E t x cs) : rep (E.cut nb) t x cs :=
  rep_on (E := E) (E' := E.cut nb) (p := fun i => decide (i < nb)) (fun _ _ _ q => q) (fun i b hi q => by rw [cut_β (of_decide_eq_true hi)]; exact q) (fun i b hi q => by rw [cut_τ (of_decide_eq_true hi)]; exact q) t x cs h r
theorem reps_low {E : Env} {nb : Nat} {t : Ty} {xs : List t.den} {l : List Value} (h : t.on (fun i => decide (i < nb)) = true) (r : reps E t xs l) : reps (E.cut nb) t xs l :=
  reps_on (E := E) (E' := E.cut nb) (p := fun i => decide (i < nb)) (fun _ _ _ q => q) (fun i b hi q => by rw [cut_β (of_decide_eq_true hi)]; exact q) (fun i b hi q => by rw [cut_τ (of_decide_eq_true hi)]; exact q) h xs l r

theorem keepS_get {k : List Nat} {p : Nat → Bool} : ∀ (l : List Slot) (i j : Nat) (s : Slot), (keepS k p i l)[j]? = some s → ∃ s0, l[j]? = some s0 ∧ (s = .junk ∨ (s = s0 ∧ (s0 = .undef ∨ ∃ x, s0 = .v x ∧ x.t.on p = true)))
  | [], _, _, _, h => by simp [keepS] at h
  | s0 :: l, i, 0, s, h => by
    refine ⟨s0, rfl, ?_⟩
    simp only [keepS, List.getElem?_cons_zero, Option.some.injEq] at h
    split at h
    · split at h
      · rename_i x
        split at h
        · rename_i hx; exact .inr ⟨h.symm, .inr ⟨x, rfl, hx⟩⟩
        · exact .inl h.symm
      · exact .inr ⟨h.symm, .inl rfl⟩
      · exact .inl h.symm
    · exact .inl h.symm
  | s0 :: l, i, j + 1, s, h => by
    simp only [keepS, List.getElem?_cons_succ] at h
    obtain ⟨s1, h1, h2⟩ := keepS_get l (i + 1) j s h
    exact ⟨s1, by simpa using h1, h2⟩
theorem keepS_length {k : List Nat} {p : Nat → Bool} : ∀ (l : List Slot) (i : Nat), (keepS k p i l).length = l.length
  | [], _ => rfl
  | _ :: l, i => by simp [keepS, keepS_length l (i + 1)]
theorem keepB_get {p : Nat → Bool} : ∀ (l : List (Option Bx)) (j : Nat) (c : Bx), (keepB p l)[j]? = some (some c) → ∃ o, l[j]? = some o ∧ offB p o = some c
  | [], _, _, h => by simp [keepB] at h
  | x :: l, 0, c, h => by
    simp only [keepB, List.getElem?_cons_zero, Option.some.injEq] at h
    exact ⟨x, rfl, h⟩
  | x :: l, j + 1, c, h => by
    simp only [keepB, List.getElem?_cons_succ] at h
    obtain ⟨o, h1, h2⟩ := keepB_get l j c h
    exact ⟨o, by simpa using h1, h2⟩
theorem keepB_length {p : Nat → Bool} : ∀ (l : List (Option Bx)), (keepB p l).length = l.length
  | [] => rfl
  | _ :: l => by simp [keepB, keepB_length l]

section
variable {P : Program} {C : Ctx} {m0 : Base} {w0 : World} {E : Env} {st : St} {a : Act} {w : World}

/-- What a tree keeps has the boxes that were handed over. -/
def An.lo (M : Nat) : An → Bool
  | .o => true
  | .s x y | .c x y => x.lo M && y.lo M
  | .b x => x.lo M
  | .l _ _ nb x => decide (M ≤ nb) && x.lo M
  | .k _ _ nb x y => decide (M ≤ nb) && (x.lo M && y.lo M)
theorem An.lo_left {M : Nat} {an : An} (h : an.lo M = true) : an.left.lo M = true := by
  cases an with
  | o => rfl
  | s x y => exact (Bool.and_eq_true_iff.1 h).1
  | c x y => exact (Bool.and_eq_true_iff.1 h).1
  | b x => exact h
  | l co k nb x => exact (Bool.and_eq_true_iff.1 h).2
  | k co k nb x y => exact (Bool.and_eq_true_iff.1 (Bool.and_eq_true_iff.1 h).2).1
theorem An.lo_right {M : Nat} {an : An} (h : an.lo M = true) : an.right.lo M = true := by
  cases an with
  | o => rfl
  | s x y => exact (Bool.and_eq_true_iff.1 h).2
  | c x y => exact (Bool.and_eq_true_iff.1 h).2
  | b x => rfl
  | l co k nb x => rfl
  | k co k nb x y => exact (Bool.and_eq_true_iff.1 (Bool.and_eq_true_iff.1 h).2).2
theorem An.lo_zero (an : An) : an.lo 0 = true := by
  induction an with
  | o => rfl
  | s x y h1 h2 => simp [An.lo, h1, h2]
  | c x y h1 h2 => simp [An.lo, h1, h2]
  | b x h1 => exact h1
  | l co k nb x h1 => simp [An.lo, h1]
  | k co k nb x y h1 h2 => simp [An.lo, h1, h2]
theorem GR.keep {tmps : Array Value} (h : GR C m0 w0 E st tmps w) (k : List Nat) (nb : Nat) (hnb : m0.nb ≤ nb) : GR C m0 w0 (E.cut nb) (st.keep k nb) tmps w := by
  have hβ : ∀ i b, (E.cut nb).β i = some b → i < nb ∧ E.β i = some b := fun i b hb => by
    have hb' : (if i < nb then E.β i else none) = some b := hb
    split at hb'
    · exact ⟨by assumption, hb'⟩
    · cases hb'
  have at_ : ∀ i (c : Bx), (keepB (fun i => decide (i < nb)) (st.b.take nb))[i]? = some (some c) → i < nb ∧ ∃ o, st.b[i]? = some o ∧ offB (fun i => decide (i < nb)) o = some c := fun i c hc => by
    obtain ⟨o, h1, h2⟩ := keepB_get _ i c hc
    have hi : i < nb := by
      have h3 : i < (st.b.take nb).length := (List.getElem?_eq_some_iff.1 h1).1
      rw [List.length_take] at h3; omega
    rw [List.getElem?_take, if_pos hi] at h1
    exact ⟨hi, o, h1, h2⟩
  refine ⟨⟨by show (keepS k _ 0 st.t).length = _; rw [keepS_length]; exact h.fr.len, fun i s _ hs => ?_, fun i t ht => ?_, fun i e t xs ht => ?_, fun i j b hi hj => h.fr.inj i j b (hβ _ _ hi).2 (hβ _ _ hj).2, h.fr.inv⟩, h.chg, fun i b hb => h.own i b (hβ _ _ hb).2, fun i b hb => h.lt i b (hβ _ _ hb).2, fun i hi => ?_, h.gl, ?_⟩
  · obtain ⟨s0, h0, rfl | ⟨rfl, rfl | ⟨x, rfl, hx⟩⟩⟩ := keepS_get st.t 0 i s hs
    · trivial
    · exact h.fr.slots i _ trivial h0
    · obtain ⟨cs, r, e⟩ := h.fr.slots i _ trivial h0
      exact ⟨cs, rep_low hx r, e⟩
  · obtain ⟨hi, o, h1, h2⟩ := at_ i _ ht
    obtain ⟨rfl, hto⟩ := offB_one h2
    obtain ⟨blk, cs, e, hb, hh, hr, hm⟩ := h.fr.boxes i t h1
    exact ⟨blk, cs, e, by rw [cut_β hi]; exact hb, hh, rep_low hto hr, hm⟩
  · obtain ⟨hi, o, h1, h2⟩ := at_ i _ ht
    obtain ⟨rfl, hto⟩ := offB_arr h2
    obtain ⟨v, l, q1, q2, q3, q4, q5⟩ := h.fr.arrs i e t xs h1
    exact ⟨v, l, by rw [cut_τ hi]; exact q1, q2, reps_low hto q3, by rw [cut_β hi]; exact q4, q5⟩
  · have hi' : (keepB (fun i => decide (i < nb)) (st.b.take nb)).length ≤ i := hi
    rw [keepB_length, List.length_take] at hi'
    by_cases hlt : i < nb
    · rw [cut_β hlt, cut_τ hlt]; exact h.top i (by omega)
    · exact ⟨by show (if i < nb then _ else _) = _; rw [if_neg hlt], by show (if i < nb then _ else _) = _; rw [if_neg hlt]⟩
  · refine ⟨?_, fun i g hi hf tv ht => ?_⟩
    · show m0.nb ≤ (keepB (fun i => decide (i < nb)) (st.b.take nb)).length
      rw [keepB_length, List.length_take]
      exact Nat.le_min.2 ⟨hnb, h.fx.1⟩
    · obtain ⟨hi2, o, h1, h2⟩ := at_ i _ ht
      obtain ⟨rfl, _⟩ := offB_one h2
      rw [cut_β hi2]; exact h.fx.2 i g hi hf tv h1

theorem GR.setS {tmps : Array Value} (h : GR C m0 w0 E st tmps w) (s : Nat) (x : Slot) (hx : ∀ y, st.t[s]? = some y → SlotRep E x (tmps.getD s undef)) : GR C m0 w0 E { st with t := st.t.set s x } tmps w :=
  ⟨⟨by show (st.t.set s x).length = _; rw [List.length_set]; exact h.fr.len, fun i q hi hq => by
    have hq' : (st.t.set s x)[i]? = some q := hq
    rw [List.getElem?_set] at hq'
    split at hq'
    · rename_i e; subst e
      split at hq'
      · rename_i hlt
        obtain rfl := Option.some.inj hq'
        exact hx _ (List.getElem?_eq_getElem hlt)
      · cases hq'
    · exact h.fr.slots i q hi hq', h.fr.boxes, h.fr.arrs, h.fr.inj, h.fr.inv⟩, h.chg, h.own, h.lt, h.top, h.gl, h.fx⟩
theorem GR.coeT {tmps : Array Value} (h : GR C m0 w0 E st tmps w) (s : Nat) (T : Ty) : GR C m0 w0 E (st.coeT s T) tmps w := by
  unfold St.coeT
  split
  · rename_i tv htv
    split
    · rename_i y hy
      exact h.setS s _ fun _ _ => castTV_ok hy (h.fr.slots s _ trivial htv)
    · exact h
  · exact h
/-- An array under construction is given another number. -/
theorem GR.ren {tmps : Array Value} (h : GR C m0 w0 E st tmps w) (s k j : Nat) (u : Ty) (e : TypeId) (hs : ∀ y, st.t[s]? = some y → ∃ u' x, y = .v ⟨.sl k u', x⟩) : ∃ E', GR C m0 w0 E' (st.ren s k j u e) tmps w := by
  unfold St.ren
  split
  · rename_i o0 e' u' xs hj hk
    split
    · rename_i hc
      obtain ⟨hkj, rfl, rfl, hon⟩ := hc
      let E' : Env := { E with β := fun i => if i = j then E.β k else if i = k then none else E.β i, τ := fun i => if i = j then E.τ k else if i = k then none else E.τ i }
      have hm : ∀ b j u, E.m b j = some u → E'.m b j = some u := fun _ _ _ q => q
      have hne : ∀ i, (i != k && i != j) = true → i ≠ k ∧ i ≠ j := fun i hi => by simpa using hi
      have bo : ∀ i, i ≠ k → i ≠ j → E'.β i = E.β i := fun i h1 h2 => by show (if _ then _ else if _ then _ else _) = _; rw [if_neg h2, if_neg h1]
      have to : ∀ i, i ≠ k → i ≠ j → E'.τ i = E.τ i := fun i h1 h2 => by show (if _ then _ else if _ then _ else _) = _; rw [if_neg h2, if_neg h1]
      have bj : E'.β j = E.β k := by show (if _ then _ else _) = _; rw [if_pos rfl]
      have tj : E'.τ j = E.τ k := by show (if _ then _ else _) = _; rw [if_pos rfl]
      have bk : E'.β k = none := by show (if _ then _ else if _ then _ else _) = _; rw [if_neg hkj, if_pos rfl]
      have tk : E'.τ k = none := by show (if _ then _ else if _ then _ else _) = _; rw [if_neg hkj, if_pos rfl]
      have hβ' : ∀ i b, (i != k && i != j) = true → E.β i = some b → E'.β i = some b := fun i b hi q => by rw [bo i (hne i hi).1 (hne i hi).2]; exact q
      have hτ' : ∀ i v, (i != k && i != j) = true → E.τ i = some v → E'.τ i = some v := fun i v hi q => by rw [to i (hne i hi).1 (hne i hi).2]; exact q
      obtain ⟨v, l, hτ, ho, hr, hβ, hmv⟩ := h.fr.arrs k e' u' xs hk
      have hjl : j < st.b.length := (List.getElem?_eq_some_iff.1 hj).1
      have hkl : k < st.b.length := (List.getElem?_eq_some_iff.1 hk).1
      have hlen : (((st.off fun i => i != k && i != j).b.set k none).set j (some (Bx.arr e' u' xs))).length = st.b.length := by simp [St.off]
      have at_ : ∀ i (c : Bx), (((st.off fun i => i != k && i != j).b.set k none).set j (some (Bx.arr e' u' xs)))[i]? = some (some c) → (i = j ∧ c = .arr e' u' xs) ∨ (i ≠ k ∧ i ≠ j ∧ ∃ o, st.b[i]? = some o ∧ offB (fun i => i != k && i != j) o = some c) := fun i c hc => by
        rw [List.getElem?_set] at hc
        by_cases h1 : j = i
        · rw [if_pos h1] at hc
          split at hc
          · simp only [Option.some.injEq] at hc; exact .inl ⟨h1.symm, hc.symm⟩
          · cases hc
        · rw [if_neg h1, List.getElem?_set] at hc
          by_cases h2 : k = i
          · rw [if_pos h2] at hc
            split at hc
            · cases hc
            · cases hc
          · rw [if_neg h2] at hc
            have hc' : (st.b.map (offB fun i => i != k && i != j))[i]? = some (some c) := hc
            rw [List.getElem?_map, Option.map_eq_some_iff] at hc'
            exact .inr ⟨fun q => h2 q.symm, fun q => h1 q.symm, hc'⟩
      have back : ∀ i b, E'.β i = some b → ∃ i', E.β i' = some b ∧ (i = j ∧ i' = k ∨ i ≠ j ∧ i ≠ k ∧ i' = i) := fun i b hb => by
        by_cases h1 : i = j
        · rw [h1, bj] at hb; exact ⟨k, hb, .inl ⟨h1, rfl⟩⟩
        · by_cases h2 : i = k
          · rw [h2, bk] at hb; cases hb
          · rw [bo i h2 h1] at hb; exact ⟨i, hb, .inr ⟨h1, h2, rfl⟩⟩
      refine ⟨E', ⟨?_, fun i x _ hx => ?_, fun i tv hi => ?_, fun i e2 t2 zs hi => ?_, fun i i' b hb hb' => ?_, h.fr.inv⟩, h.chg, fun i b hb => ?_, fun i b hb => ?_, fun i hi => ?_, h.gl, h.fx.mono (by rw [hlen]; exact Nat.le_refl _) fun i tv _ ht => by
        rcases at_ i _ ht with ⟨_, q⟩ | ⟨h1, h2, o, ho1, ho2⟩
        · cases q
        · obtain ⟨rfl, _⟩ := offB_one ho2
          exact ⟨⟨tv, ho1⟩, bo i h1 h2⟩⟩
      · show ((st.t.map _).set s _).length = _
        rw [List.length_set, List.length_map]; exact h.fr.len
      · have hx' : ((st.t.map (offS fun i => i != k && i != j)).set s (.v ⟨.sl j u', ()⟩))[i]? = some x := hx
        rw [List.getElem?_set] at hx'
        split at hx'
        · rename_i hsi
          subst hsi
          split at hx'
          · rename_i hlt
            obtain rfl := Option.some.inj hx'
            have hlt' : s < st.t.length := by simpa using hlt
            obtain ⟨u2, x2, hy⟩ := hs _ (List.getElem?_eq_getElem hlt')
            obtain ⟨A, n, cap, hv2, hτ2⟩ := vrep_sl (E := E) (k := k) (t := u2) (x := x2) (by
              have := h.fr.slots s _ trivial (List.getElem?_eq_getElem hlt')
              rw [hy] at this; exact this)
            rw [hv2]
            exact ⟨[_], ⟨A, n, cap, by rw [tj]; exact hτ2, rfl⟩, rfl⟩
          · cases hx'
        · rw [List.getElem?_map, Option.map_eq_some_iff] at hx'
          obtain ⟨s0, h0, rfl⟩ := hx'
          exact offS_ok hm hβ' hτ' (h.fr.slots i s0 trivial h0)
      · rcases at_ i _ hi with ⟨_, q⟩ | ⟨h1, h2, o, ho1, ho2⟩
        · cases q
        · obtain ⟨rfl, hto⟩ := offB_one ho2
          obtain ⟨blk, cs, e3, hb, hh, r, hmn⟩ := h.fr.boxes i tv ho1
          exact ⟨blk, cs, e3, by rw [bo i h1 h2]; exact hb, hh, rep_on hm hβ' hτ' _ _ _ hto r, hmn⟩
      · rcases at_ i _ hi with ⟨rfl, q⟩ | ⟨h1, h2, o, ho1, ho2⟩
        · simp only [Bx.arr.injEq] at q
          obtain ⟨rfl, rfl, q⟩ := q
          obtain rfl := eq_of_heq q
          exact ⟨v, l, by rw [tj]; exact hτ, ho, reps_on hm hβ' hτ' hon _ _ hr, by rw [bj]; exact hβ, hmv⟩
        · obtain ⟨rfl, hto⟩ := offB_arr ho2
          obtain ⟨v2, l2, q1, q2, q3, q4, q5⟩ := h.fr.arrs i e2 t2 zs ho1
          exact ⟨v2, l2, by rw [to i h1 h2]; exact q1, q2, reps_on hm hβ' hτ' hto _ _ q3, by rw [bo i h1 h2]; exact q4, q5⟩
      · obtain ⟨x, hx, hx2⟩ := back i b hb
        obtain ⟨y, hy, hy2⟩ := back i' b hb'
        have := h.fr.inj x y b hx hy
        omega
      · obtain ⟨x, hx, _⟩ := back i b hb; exact h.own x b hx
      · obtain ⟨x, hx, _⟩ := back i b hb; exact h.lt x b hx
      · have hi' : st.b.length ≤ i := by rw [← hlen]; exact hi
        exact ⟨by rw [bo i (by omega) (by omega)]; exact (h.top i hi').1, by rw [to i (by omega) (by omega)]; exact (h.top i hi').2⟩
    · exact ⟨E, h⟩
  · exact ⟨E, h⟩
theorem GR.coe1 {tmps : Array Value} (h : GR C m0 w0 E st tmps w) (c : Nat × Ty × TypeId) : ∃ E', GR C m0 w0 E' (st.coe1 c) tmps w := by
  unfold St.coe1
  split
  · rename_i s j u e k u' y hs
    exact h.ren s k j u e (fun z hz => ⟨_, _, Option.some.inj (hz.symm.trans hs)⟩)
  · rename_i s j u e u' y hs
    split
    · rename_i hc
      obtain ⟨rfl, rfl⟩ := hc
      obtain ⟨E', hle, hτ, hg⟩ := h.nil e u'
      have hv := vrep_nl (h.fr.slots s _ trivial hs)
      refine ⟨E', (hg.setS s (.v ⟨.sl st.b.length u', ()⟩) fun _ _ => ?_)⟩
      rw [hv]
      exact ⟨[_], ⟨_, _, _, hτ, rfl⟩, rfl⟩
    · exact ⟨E, h⟩
  · exact ⟨E, h⟩
  · rename_i s T e _ _ _
    obtain ⟨E1, h1⟩ := h.frzO true (.tmp s)
    exact ⟨E1, h1.coeT s T⟩
theorem GR.coe {tmps : Array Value} : ∀ (l : List (Nat × Ty × TypeId)) (E : Env) (st : St), GR C m0 w0 E st tmps w → ∃ E', GR C m0 w0 E' (st.coe l) tmps w
  | [], E, _, h => ⟨E, h⟩
  | c :: r, _, _, h => by
    obtain ⟨E1, h1⟩ := h.coe1 c
    exact GR.coe r E1 _ h1

theorem GR.keepA {tmps : Array Value} (h : GR C m0 w0 E st tmps w) (an : An) (hlo : an.lo m0.nb = true) : ∃ E', GR C m0 w0 E' (st.keepA an) tmps w := by
  unfold St.keepA
  split
  · simp only [An.lo, Bool.and_eq_true, decide_eq_true_eq] at hlo
    obtain ⟨E1, h1⟩ := GR.coe _ E st h; exact ⟨_, h1.keep _ _ hlo.1⟩
  · simp only [An.lo, Bool.and_eq_true, decide_eq_true_eq] at hlo
    obtain ⟨E1, h1⟩ := GR.coe _ E st h; exact ⟨_, h1.keep _ _ hlo.1⟩
  · exact ⟨_, h⟩

theorem least (p : Nat → Prop) (h : ∃ n, p n) : ∃ n, p n ∧ ∀ m, p m → n ≤ m := by
  obtain ⟨n, hn⟩ := h
  induction n using Nat.strongRecOn with
  | _ n ih =>
    by_cases hm : ∃ m, m < n ∧ p m
    · obtain ⟨m, hlt, hp⟩ := hm
      exact ih m hlt hp
    · exact ⟨n, hn, fun m hp => Nat.le_of_not_lt fun hlt => hm ⟨m, hlt, hp⟩⟩

/-- A loop, by its rounds. -/
theorem wp_loop_rounds {c : Code} {Q : Exit → Act → World → Prop} (G : Nat → Act → World → Prop) {n : Nat} (h0 : G n a w)
    (hr : ∀ n a w, G n a w → ∃ k, n = k + 1 ∧ c.wp P (Exit.then (G k) Q) a w) : (Code.loop c).wp P Q a w := by
  have hl : ∀ a w, ∃ m, (∃ n, G n a w) → G m a w ∧ ∀ k, G k a w → m ≤ k := fun a w => by
    by_cases h : ∃ n, G n a w
    · obtain ⟨m, hm⟩ := least _ h
      exact ⟨m, fun _ => hm⟩
    · exact ⟨0, fun h' => absurd h' h⟩
  refine wp_loop (fun a w => ∃ n, G n a w) (fun a w => (hl a w).choose) ⟨n, h0⟩ fun a w hi => ?_
  obtain ⟨hg, hmin⟩ := (hl a w).choose_spec hi
  obtain ⟨k, hk, hw⟩ := hr _ a w hg
  refine wp_mono hw fun e a' w' hq => ?_
  cases e <;> try exact hq
  refine ⟨⟨k, hq⟩, ?_⟩
  have := ((hl a' w').choose_spec ⟨k, hq⟩).2 k hq
  omega

variable {R : Type}
theorem codeK_ok {sp : Specs} (hsp : ∀ g s, sp g = some s → SoundX P C g s) {n : Nat} {r : R} {ds : List Deferred} : ∀ (c : Code) (an : An) (st : St) (K : Ex → St → Option R) (E : Env) (a : Act) (w : World) (Q : Exit → Act → World → Prop), an.lo m0.nb = true →
    codeK P sp n c an st K = some r → GR C m0 w0 E st a.tmps w → a.defers = ds →
    (∀ e st' E' a' w', K e st' = some r → GR C m0 w0 E' st' a'.tmps w' → a'.defers = ds → Q e.out a' w') → c.wp P Q a w := by
  intro c
  induction c with
  | skip => intro an st K E a w Q hlo h hg hd hQ; exact wp_skip (hQ .norm st E a w h hg hd)
  | region id ops draw =>
    intro an st K E a w Q hlo h hg hd hQ
    cases draw with
    | true =>
      simp only [codeK] at h
      exact region_draw_ok hsp h hg hd hQ
    | false =>
      simp only [codeK] at h
      refine wp_region ?_
      have := opsK_ok hsp hQ ops.toList 0 st E a w rfl h hg hd
      rw [List.range_eq_range']
      simpa using this
  | seq x y ihx ihy =>
    intro an st K E a w Q hlo h hg hd hQ
    simp only [codeK] at h
    refine wp_seq (ihx an.left st _ E a w _ (An.lo_left hlo) h hg hd fun e st' E' a' w' hk hg' hd' => ?_)
    cases e with
    | norm =>
      obtain ⟨E2, hg2⟩ := hg'.keepA an hlo
      exact ihy an.right _ K E2 a' w' Q (An.lo_right hlo) hk hg2 hd' hQ
    | exit id => exact hQ _ _ E' a' w' hk hg' hd'
    | ret => exact hQ _ _ E' a' w' hk hg' hd'
    | pan T k m => exact hQ _ _ E' a' w' hk hg' hd'
  | cond c x y ihx ihy =>
    intro an st K E a w Q hlo h hg hd hQ
    simp only [codeK] at h
    split at h
    · rename_i b hb
      have hv := vrep_bool (opd_ok hg.fr (fun _ _ => trivial) hb)
      rcases bif_some h with ⟨rfl, h2⟩ | ⟨rfl, h2⟩
      · exact wp_cond_true hv (ihx _ _ _ E a w Q (An.lo_left hlo) h2 (hg.knowO hv) hd hQ)
      · exact wp_cond_false hv (ihy _ _ _ E a w Q (An.lo_right hlo) h2 (hg.knowO hv) hd hQ)
    · cases h
  | block id x ih =>
    intro an st K E a w Q hlo h hg hd hQ
    simp only [codeK] at h
    refine wp_block (ih an.left st _ E a w _ (An.lo_left hlo) h hg hd fun e st' E' a' w' hk hg' hd' => ?_)
    cases e with
    | norm => exact hQ _ _ E' a' w' hk hg' hd'
    | exit j =>
      simp only [Ex.out, Exit.inBlock]
      simp only at hk
      split at hk
      · rename_i hj; rw [if_pos hj]; exact hQ .norm _ E' a' w' hk hg' hd'
      · rename_i hj; rw [if_neg hj]; exact hQ (.exit j) _ E' a' w' hk hg' hd'
    | ret => exact hQ _ _ E' a' w' hk hg' hd'
    | pan T k m => exact hQ _ _ E' a' w' hk hg' hd'
  | loop x ih =>
    intro an st K E a w Q hlo h hg hd hQ
    simp only [codeK] at h
    obtain ⟨E1, hg1⟩ := hg.keepA an hlo
    refine wp_loop_rounds (fun k a w => ∃ E st, rounds (fun rec st => codeK P sp n x an.left st fun e st' => match e with
      | .norm => rec (st'.keepA an)
      | e => K e st') k st = some r ∧ GR C m0 w0 E st a.tmps w ∧ a.defers = ds) ⟨E1, _, h, hg1, hd⟩ fun k a w hk => ?_
    obtain ⟨E, st, h, hg, hd⟩ := hk
    cases k with
    | zero => cases h
    | succ k =>
      refine ⟨k, rfl, ?_⟩
      simp only [rounds] at h
      refine ih an.left st _ E a w _ (An.lo_left hlo) h hg hd fun e st' E' a' w' hk hg' hd' => ?_
      cases e with
      | norm =>
        obtain ⟨E2, hg2⟩ := hg'.keepA an hlo
        exact ⟨E2, _, hk, hg2, hd'⟩
      | exit j => exact hQ _ _ E' a' w' hk hg' hd'
      | ret => exact hQ _ _ E' a' w' hk hg' hd'
      | pan T k m => exact hQ _ _ E' a' w' hk hg' hd'
  | exit id => intro an st K E a w Q hlo h hg hd hQ; exact wp_exit (hQ (.exit id) st E a w h hg hd)
  | label l => intro an st K E a w Q hlo h hg hd hQ; exact wp_label (hQ .norm st E a w h hg hd)
  | ret => intro an st K E a w Q hlo h hg hd hQ; exact wp_ret (hQ .ret st E a w h hg hd)
  | _ => intro an st K E a w Q _ h; simp [codeK] at h
end
end Go.Proofs.YtedenojeljjnaaaGreatDoorPi

namespace Go.Proofs.YtedenojeljjnaaaGreatDoorPi
open Go

def plain : Ty → Bool
  | .pair a b => plain a && plain b
  | .list t | .nl t | .ref t | .opt t => plain t
  | .sl _ _ | .ptr _ _ _ | .ep _ _ _ _ | .bld _ _ _ | .nif | .ifi _ _ => false
  | .fn _ _ b => plain b
  | _ => true

theorem plain_on : ∀ (t : Ty), plain t = true → t.on (fun _ => false) = true
  | .unit, _ | .bool, _ | .int _, _ | .str, _ => rfl
  | .pair a b, h => by
    simp only [plain, Bool.and_eq_true] at h
    simp [Ty.on, plain_on a h.1, plain_on b h.2]
  | .list t, h | .nl t, h | .ref t, h | .opt t, h => by simp only [plain] at h; simp [Ty.on, plain_on t h]
  | .fn _ _ b, h => by simp only [plain] at h; simp [Ty.on, plain_on b h]
  | .sl _ _, h | .ptr _ _ _, h | .ep _ _ _ _, h | .bld _ _ _, h | .nif, h | .ifi _ _, h => by simp [plain] at h
theorem rep_plain {E E' : Env} (he : E.m = E'.m) (t : Ty) (x : t.den) (cs : List Value) (h : plain t = true) (r : rep E t x cs) : rep E' t x cs :=
  rep_on (p := fun _ => false) (fun b j v q => by rw [← he]; exact q) (fun _ _ q => by cases q) (fun _ _ q => by cases q) t x cs (plain_on t h) r
theorem vals_plain {E E' : Env} (he : E.m = E'.m) : ∀ (t : Ty) (x : t.den) (vs : List Value), plain t = true → vals E t x vs → vals E' t x vs
  | .unit, _, _, _, r => r
  | .pair a b, _, _, h, ⟨v, vs', e, ⟨cs, r, hv⟩, r2⟩ => by
    simp only [plain, Bool.and_eq_true] at h
    exact ⟨v, vs', e, ⟨cs, rep_plain he a _ _ h.1 r, hv⟩, vals_plain he b _ _ h.2 r2⟩

section
variable {P : Program} {C : Ctx} {m0 : Base} {w0 : World} {E : Env} {st : St} {w : World}

theorem loadK_val {ty : TypeId} {a : TV} {s : Slot} (h : loadK P st ty a some = some s) :
    ∀ (X : Nat → Prop) (E : Env) (tmps : Array Value) (w : World) (va : Value), FR X E st tmps w → VRep E a.t a.x va → ∃ ad v, va = .pointer (some ad) ∧ (loadVar ty ad).run P w = .ok v w ∧ SlotRep E s v := by
  obtain ⟨s', hs, hv⟩ := loadK_ok h
  obtain rfl := Option.some.inj hs
  intro X E tmps w va hf ha
  obtain ⟨v, hrun, hr⟩ := hv X E tmps w va hf ha
  cases va with
  | pointer p =>
    cases p with
    | none => simp [Instr.loadAt, Instr.sureAddr] at hrun
    | some ad =>
      refine ⟨ad, v, rfl, ?_, hr⟩
      simpa [Instr.loadAt, Instr.sureAddr] using hrun
  | _ => simp [Instr.loadAt, Instr.sureAddr] at hrun

def resV (tmps : Array Value) : ResultVar → Sem Value
  | .tmp t => pure (tmps.getD t undef)
  | .cell a t => do loadVar t (← asAddr (tmps.getD a undef))

/-- All that the frame has made, but for its first boxes, is laid down for good. -/
noncomputable def allM (nb : Nat) (E : Env) (w : World) : Mem := fun b j => open Classical in if ∃ i, nb ≤ i ∧ E.β i = some b then w.cell? ⟨b, j, none⟩ else E.m b j
theorem allM_le {nb : Nat} (hi : Inv E.m w) : ∀ b j v, E.m b j = some v → allM nb E w b j = some v := fun b j v hv => by
  unfold allM
  split
  · exact hi b j v hv
  · exact hv
theorem allM_inv {nb : Nat} (hi : Inv E.m w) : Inv (allM nb E w) w := fun b j v hv => by
  unfold allM at hv
  split at hv
  · exact hv
  · exact hi b j v hv
theorem allM_at {nb i b : Nat} (hn : nb ≤ i) (h : E.β i = some b) (j : Nat) : allM nb E w b j = w.cell? ⟨b, j, none⟩ := by
  unfold allM; rw [if_pos ⟨i, hn, h⟩]
noncomputable abbrev Env.all (E : Env) (nb : Nat) (w : World) : Env := { E with m := allM nb E w }
/-- The first boxes are empty. -/
def High (nb : Nat) (b : List (Option Bx)) : Prop := ∀ i c, b[i]? = some (some c) → nb ≤ i

theorem deep_ok {nb : Nat} {X : Nat → Prop} {tmps : Array Value} (hf : FR X E st tmps w) (hh0 : High nb st.b) : ∀ (n : Nat) (t : Ty) (x : t.den) (cs : List Value), rep E t x cs → rep (E.all nb w) (deep st.b n t x).t (deep st.b n t x).x cs := by
  have hle : E.le (E.all nb w) := Env.le_m (allM_le hf.inv)
  intro n
  induction n with
  | zero => intro t x cs r; exact rep_mono hle _ _ _ r
  | succ n ih =>
    intro t x cs r
    cases t with
    | pair a c =>
      obtain ⟨c1, c2, e, r1, r2⟩ := r
      exact ⟨c1, c2, e, ih _ _ _ r1, ih _ _ _ r2⟩
    | sl k t =>
      generalize hD : deep st.b (n + 1) (.sl k t) x = D
      simp only [deep] at hD
      split at hD
      · rename_i e t' xs hk
        split at hD
        · subst hD
          obtain ⟨A, m, cap, hτ, rfl⟩ := r
          obtain ⟨v, l, ht, ho, hr, hβ, _⟩ := hf.arrs k e t' xs hk
          obtain rfl := Option.some.inj (hτ.symm.trans ht)
          rcases ho.2 with ⟨hv, hn⟩ | ⟨g, cap', cur, hv, _, hg, hnc, _, _, htake⟩
          · have hxs : xs = [] := List.eq_nil_of_length_eq_zero hn
            simp only [Value.slice.injEq] at hv
            obtain ⟨rfl, rfl, rfl⟩ := hv
            subst hxs
            exact ⟨none, 0, rfl, fun _ => rfl, Nat.le_refl _, fun i x hx => by simp at hx⟩
          · simp only [Value.slice.injEq] at hv
            obtain ⟨rfl, rfl, rfl⟩ := hv
            refine ⟨some ⟨g, 0, none⟩, cap, rfl, fun q => (nomatch q), hnc, fun j x hx => ?_⟩
            obtain ⟨pre, c, post, hl2, hp, hrc, _⟩ := reps_at xs l j x hr hx
            refine ⟨⟨g, 0, none⟩, c, rfl, rfl, rep_mono hle _ _ _ hrc, rfl, fun q v hq => ?_⟩
            show allM nb E w g (0 + j * t'.size + q) = some v
            rw [allM_at (hh0 k _ hk) hβ]
            have := ho.cells (g := g) rfl (0 + j * t'.size + q) v (by
              rw [hl2, List.append_assoc, List.getElem?_append_right (by omega), show 0 + j * t'.size + q - pre.length = q by omega, List.getElem?_append_left (List.getElem?_eq_some_iff.1 hq).1]
              exact hq)
            rw [add_spotless, Nat.zero_add] at this
            exact this
        · subst hD; exact rep_mono hle _ _ _ r
      · subst hD; exact rep_mono hle _ _ _ r
    | ptr k o t =>
      generalize hD : deep st.b (n + 1) (.ptr k o t) x = D
      simp only [deep] at hD
      split at hD
      · rename_i c hk
        split at hD
        · rename_i z hz
          subst hD
          obtain ⟨b, hb, rfl⟩ := r
          obtain ⟨blk, cs, e, hb', hh, hr, _⟩ := hf.boxes k c hk
          obtain rfl : b = blk := Option.some.inj (hb.symm.trans hb')
          obtain ⟨pre, q, post, rfl, hp, hq⟩ := getAt_ok _ _ _ _ hz hr
          refine ⟨⟨b, o, none⟩, q, rfl, ih _ _ _ hq, rfl, fun j v hj => ?_⟩
          show allM nb E w b (o + j) = some v
          rw [allM_at (hh0 k _ hk) hb]
          refine cell_blk hh ?_
          rw [List.append_assoc, List.getElem?_append_right (by omega), show o + j - pre.length = j by omega, List.getElem?_append_left (List.getElem?_eq_some_iff.1 hj).1]
          exact hj
        · subst hD; exact rep_mono hle _ _ _ r
      · subst hD; exact rep_mono hle _ _ _ r
    | _ => exact rep_mono hle _ _ _ r
theorem deep_agg : ∀ (n : Nat) (t : Ty) (x : t.den), (deep st.b n t x).t.isAgg = t.isAgg := by
  intro n
  cases n with
  | zero => intro t x; rfl
  | succ n =>
    intro t x
    cases t with
    | sl k t =>
      generalize hD : deep st.b (n + 1) (.sl k t) x = D
      simp only [deep] at hD
      split at hD
      · split at hD <;> (subst hD; rfl)
      · subst hD; rfl
    | ptr k o t =>
      generalize hD : deep st.b (n + 1) (.ptr k o t) x = D
      simp only [deep] at hD
      split at hD
      · split at hD <;> (subst hD; rfl)
      · subst hD; rfl
    | _ => rfl
theorem deep_elt (n : Nat) (t : Ty) (x : t.den) (e : TypeId) : eltOf (deep st.b n t x).t e = eltOf t e := by
  cases n with
  | zero => rfl
  | succ n =>
    cases t with
    | sl k t =>
      generalize hD : deep st.b (n + 1) (.sl k t) x = D
      simp only [deep] at hD
      split at hD
      · split at hD <;> (subst hD; rfl)
      · subst hD; rfl
    | ptr k o t =>
      generalize hD : deep st.b (n + 1) (.ptr k o t) x = D
      simp only [deep] at hD
      split at hD
      · split at hD <;> (subst hD; rfl)
      · subst hD; rfl
    | _ => rfl
theorem deepT_ok {nb : Nat} {X : Nat → Prop} {tmps : Array Value} (hf : FR X E st tmps w) (hh0 : High nb st.b) {a : Ty} {tv : TV} {y : a.den} {v : Value} (h : deepT st a tv = some y) (r : VRep E tv.t tv.x v) : VRep (E.all nb w) a y v := by
  obtain ⟨cs, r, e⟩ := r
  exact castTV_ok h ⟨cs, deep_ok hf hh0 30 _ _ _ r, by rw [e]; unfold mkV; rw [deep_agg]⟩

/-- The results' values. -/
theorem resT_ok {nb : Nat} {tmps : Array Value} (hf : FR (fun _ => True) E st tmps w) (hh0 : High nb st.b) : ∀ (t : Ty) (rs : List ResultVar) (y : t.den), resT P st t rs = some y →
    ∃ vs, vals (E.all nb w) t y vs ∧ (rs.mapM (resV tmps)).run P w = .ok vs w
  | .unit, [], _, _ => ⟨[], rfl, by simp⟩
  | .pair a b, .tmp t :: rs, y, h => by
    simp only [resT] at h
    split at h
    · rename_i tv y2 h1 h2
      split at h
      · rename_i y1 h3
        obtain rfl := Option.some.inj h
        obtain ⟨vs, hvs, hrun⟩ := resT_ok hf hh0 b rs y2 h2
        have hv := deepT_ok hf hh0 h3 (opd_ok (a := ⟨tmps, []⟩) hf (fun _ _ => trivial) h1)
        refine ⟨_, ⟨_, vs, rfl, hv, hvs⟩, ?_⟩
        rw [List.mapM_cons, Sem.run_bind, resV, Sem.run_pure, Result.andThen_ok, Sem.run_bind, hrun]; rfl
      · cases h
    · cases h
  | .pair a b, .cell t ty :: rs, y, h => by
    simp only [resT] at h
    split at h
    · rename_i tv z h1 h2
      split at h
      · rename_i u h3
        split at h
        · rename_i y1 h4
          obtain rfl := Option.some.inj h
          obtain ⟨vs, hvs, hrun⟩ := resT_ok hf hh0 b rs z h2
          have hv := opd_ok (a := ⟨tmps, []⟩) hf (fun _ _ => trivial) h1
          obtain ⟨ad, v, hva, hl, hr⟩ := loadK_val h3 _ E tmps w _ hf hv
          have hva' : tmps.getD t undef = .pointer (some ad) := hva
          refine ⟨_, ⟨v, vs, rfl, deepT_ok hf hh0 h4 hr, hvs⟩, ?_⟩
          rw [List.mapM_cons, Sem.run_bind, resV, Sem.run_bind, hva']
          simp only [asAddr, Sem.run_pure, Result.andThen_ok, hl, Sem.run_bind, hrun]
        · cases h
      · cases h
    · cases h
  | .unit, _ :: _, _, h | .pair _ _, [], _, h | .bool, _, _, h | .int _, _, _, h | .str, _, _, h | .list _, _, _, h | .nl _, _, _, h | .opt _, _, _, h | .ep _ _ _ _, _, _, h | .sl _ _, _, _, h | .ref _, _, _, h | .ptr _ _ _, _, _, h | .fn _ _ _, _, _, h | .bld _ _ _, _, _, h | .nif, _, _, h | .ifi _ _, _, _, h => by simp [resT] at h

theorem start_ok {τ : Nat → Option Value} {β : Nat → Option Nat} {m : Mem} : ∀ (t : Ty) (x : t.den) (vs : List Value), vals ⟨m, β, τ⟩ t x vs → (start.go t x).length = vs.length ∧ ∀ i s, (start.go t x)[i]? = some s → SlotRep ⟨m, β, τ⟩ s (vs.getD i undef)
  | .unit, _, _, h => by obtain rfl : _ = [] := h; exact ⟨rfl, fun i s hs => by simp [start.go] at hs⟩
  | .pair a b, x, _, h => by
    obtain ⟨v, vs', rfl, hv, h2⟩ := h
    obtain ⟨h3, h4⟩ := start_ok b x.2 vs' h2
    refine ⟨by simp [start.go, h3], fun i s hs => ?_⟩
    cases i with
    | zero => simp only [start.go, List.getElem?_cons_zero, Option.some.injEq] at hs; subst hs; exact hv
    | succ i => simp only [start.go, List.getElem?_cons_succ] at hs; exact h4 i s hs

/-- What a function's evaluator gives is what the function does. -/
theorem sound_fun {sp : Specs} (hsp : ∀ g s, sp g = some s → SoundX P C g s) {f : FuncId} {fn : Func} (hf : P.funcs[f]? = some fn) (hn : (fn.name == "runtime.NumGoroutine") = false) (hb : fn.body.isNone = false) (an : An) (s : Sp)
    (hp : plain s.ps = true) (hr : plain s.rs = true) (hF : ∀ n x, s.F n x = funK P sp fn an s.ps s.rs n x) : Sound P C f s := by
  refine ⟨fun args w => ?_, fun n x r h m β τ w vs hi hG hv => ?_⟩
  · unfold callFunc
    simp only [Sem.run_bind, run_program, Result.andThen_ok, hf, hn, hb, Bool.false_eq_true, if_false]
    rfl
  · rw [hF] at h
    unfold funK at h
    split at h
    · rename_i c hc
      refine calls_of_wp hf hc ?_
      have hv' : vals ⟨m, fun _ => none, fun _ => none⟩ s.ps x vs := vals_plain (E := ⟨m, β, τ⟩) (E' := ⟨m, fun _ => none, fun _ => none⟩) rfl _ _ _ hp hv
      obtain ⟨hlen, hslots⟩ := start_ok _ _ _ hv'
      have hg : GR C (.of m) w ⟨m, fun _ => none, fun _ => none⟩ (start s.ps x fn.ntmps) (vs.toArray ++ Array.replicate (fn.ntmps - vs.toArray.size) undef) w := by
        refine ⟨⟨?_, fun i q _ hq => ?_, fun i tv ht => ?_, fun i e t xs ht => ?_, fun _ _ _ hb => (nomatch hb), hi⟩, .refl _ _, fun _ _ hb => (nomatch hb), fun _ _ hb => (nomatch hb), fun _ _ => ⟨rfl, rfl⟩, hG, .none_ rfl⟩
        · simp [start, hlen]
        · have hq' : (start.go s.ps x ++ List.replicate (fn.ntmps - (start.go s.ps x).length) Slot.undef)[i]? = some q := hq
          by_cases hlt : i < vs.length
          · rw [List.getElem?_append_left (by omega)] at hq'
            have := hslots i q hq'
            rw [Array.getD_eq_getD_getElem?, Array.getElem?_append_left (by simpa using hlt)]
            rw [List.getD_eq_getElem?_getD] at this
            simpa using this
          · rw [List.getElem?_append_right (by omega)] at hq'
            have hq2 := List.getElem?_replicate .. ▸ hq'
            split at hq2
            · obtain rfl := Option.some.inj hq2
              show _ = undef
              rw [Array.getD_eq_getD_getElem?, Array.getElem?_append_right (by simpa using hlt)]
              rw [Array.getElem?_replicate]
              split <;> rfl
            · cases hq2
        · simp [start] at ht
        · simp [start] at ht
      refine codeK_ok (m0 := .of m) (w0 := w) (r := r) (ds := []) hsp c an _ _ _ ⟨_, []⟩ w _ (An.lo_zero an) h hg rfl fun e st' E' a' w' hk hg' hd' => ?_
      have fin : resT P st' s.rs fn.results.toList = some r → a'.defers = [] ∧ ∃ v, (results fn a'.tmps).run P w' = .ok v w' ∧ (∃ v_1 m', Ending.returned v = .returned v_1 ∧ Chg C m w m' w' ∧ Inv m' w' ∧ SlotRep ⟨m', β, τ⟩ (retSlot s.rs r) v_1) := fun hres => by
        obtain ⟨vs', hvs, hrun⟩ := resT_ok (nb := 0) hg'.fr (fun _ _ _ => Nat.zero_le _) _ _ _ hres
        have hvs' : vals ⟨allM 0 E' w', β, τ⟩ s.rs r vs' := vals_plain (E := E'.all 0 w') (E' := ⟨allM 0 E' w', β, τ⟩) rfl _ _ _ hr hvs
        refine ⟨hd', _, ?_, ⟨_, allM 0 E' w', rfl, ⟨hg'.chg.os, hg'.chg.tape, hg'.chg.output, hg'.chg.drawn, hg'.chg.size, hg'.chg.heap, fun b hb _ => ?_, fun b j v q => allM_le hg'.fr.inv b j v (hg'.chg.sub b j v q)⟩, allM_inv hg'.fr.inv, vals_ret _ _ _ hvs'⟩⟩
        rotate_left
        · rw [show m b = _ from (hg'.chg.mem b hb id).symm]
          funext j
          unfold allM
          rw [if_neg (fun ⟨i, _, hi⟩ => by rcases hg'.own i b hi with q | q; omega; exact q)]
        have hres' : results fn a'.tmps = (do
          let vs ← fn.results.mapM (resV a'.tmps)
          pure (if h : vs.size = 1 then vs[0] else .tuple vs)) := rfl
        rw [hres', Sem.run_bind, Array.mapM_eq_mapM_toList, Sem.run_map, hrun]
        rfl
      cases e with
      | norm => exact fin hk
      | exit id => cases hk
      | ret => exact fin hk
      | pan T k m => cases hk
    · cases h
/-- Results, the first of which is the call's own. -/
theorem resO_ok {tmps : Array Value} (hf : FR (fun _ => True) E st tmps w) {e : TypeId} {t rs : Ty} (ht : plain t = true) {l : List ResultVar} {xs : List t.den} {z : rs.den} (h : resO P st e t rs l = some (xs, z)) :
    ∃ (E2 : Env) (v : Value) (vs' c : List Value), (l.mapM (resV tmps)).run P w = .ok (v :: vs') w ∧ E2.m = E.m ∧ (∀ i b, E2.β i = some b → E.β i = some b) ∧ w.ownsRow 0 e t.size v xs.length c ∧ reps (E2.all 0 w) t xs c ∧ vals (E2.all 0 w) rs z vs' ∧
      ∀ g, v.ownBlock = some g → (∃ i, E.β i = some g) ∧ ∀ j, allM 0 E2 w g j = none := by
  unfold resO at h
  split at h
  · rename_i x r
    have run_ : ∀ (vs : List Value), (r.mapM (resV tmps)).run P w = .ok vs w → (((.tmp x : ResultVar) :: r).mapM (resV tmps)).run P w = .ok (tmps.getD x undef :: vs) w := fun vs hrun => by
      rw [List.mapM_cons, Sem.run_bind, resV, Sem.run_pure, Result.andThen_ok, Sem.run_bind, hrun]; rfl
    split at h
    · rename_i k u y hx
      split at h
      · rename_i e' u' ys hb
        split at h
        · rename_i zs z' hcast hres
          split at h
          · rename_i hc
            obtain ⟨rfl, hk⟩ := hc
            simp only [Option.some.injEq, Prod.mk.injEq] at h
            obtain ⟨rfl, rfl⟩ := h
            have hlist : (⟨.list u', ys⟩ : TV) = ⟨.list t, zs⟩ := by
              unfold castTV at hcast
              split at hcast
              · rename_i hh
                simp only [Ty.list.injEq] at hh
                subst hh
                simp only [Option.some.injEq] at hcast
                rw [hcast]
              · simp [castU] at hcast
            simp only [TV.mk.injEq, Ty.list.injEq] at hlist
            obtain ⟨rfl, hxx⟩ := hlist
            obtain rfl := eq_of_heq hxx
            obtain ⟨v, c, hτ, ho, hr, hβ, hm⟩ := hf.arrs k e' u' ys hb
            let E2 : Env := { E with β := fun i => if i = k then none else E.β i, τ := fun i => if i = k then none else E.τ i }
            have b2 : ∀ i b, (i != k) = true → E.β i = some b → E2.β i = some b := fun i b hi q => by
              show (if _ then _ else _) = _; rw [if_neg (by simpa using hi)]; exact q
            have t2 : ∀ i b, (i != k) = true → E.τ i = some b → E2.τ i = some b := fun i b hi q => by
              show (if _ then _ else _) = _; rw [if_neg (by simpa using hi)]; exact q
            have bb : ∀ i b, E2.β i = some b → i ≠ k ∧ E.β i = some b := fun i b q => by
              have q' : (if i = k then none else E.β i) = some b := q
              split at q'
              · cases q'
              · exact ⟨by assumption, q'⟩
            have mm : ∀ b j u, E.m b j = some u → E2.m b j = some u := fun _ _ _ q => q
            have at_ : ∀ i (c : Bx), ((st.off fun i => i != k).b.set k none)[i]? = some (some c) → i ≠ k ∧ ∃ o, st.b[i]? = some o ∧ offB (fun i => i != k) o = some c := fun i c hc => by
              rw [List.getElem?_set] at hc
              split at hc
              · split at hc
                · cases hc
                · cases hc
              · rename_i hne
                have hc' : (st.b.map (offB fun i => i != k))[i]? = some (some c) := hc
                rw [List.getElem?_map, Option.map_eq_some_iff] at hc'
                exact ⟨fun q => hne q.symm, hc'⟩
            have hf2 : FR (fun _ => True) E2 ⟨(st.off fun i => i != k).t, (st.off fun i => i != k).b.set k none⟩ tmps w := by
              refine ⟨by show (st.t.map _).length = _; rw [List.length_map]; exact hf.len, fun i s _ hs => ?_, fun i tv hi => ?_, fun i e2 t2' zs hi => ?_, fun i j b hi hj => hf.inj i j b (bb i b hi).2 (bb j b hj).2, hf.inv⟩
              · have hs' : (st.t.map (offS fun i => i != k))[i]? = some s := hs
                rw [List.getElem?_map, Option.map_eq_some_iff] at hs'
                obtain ⟨s0, h0, rfl⟩ := hs'
                exact offS_ok mm b2 t2 (hf.slots i s0 trivial h0)
              · obtain ⟨h1, o, ho1, ho2⟩ := at_ i _ hi
                obtain ⟨rfl, hto⟩ := offB_one ho2
                obtain ⟨blk, cs, e3, q1, q2, q3, q4⟩ := hf.boxes i tv ho1
                exact ⟨blk, cs, e3, b2 i blk (by simpa using h1) q1, q2, rep_on mm b2 t2 _ _ _ hto q3, q4⟩
              · obtain ⟨h1, o, ho1, ho2⟩ := at_ i _ hi
                obtain ⟨rfl, hto⟩ := offB_arr ho2
                obtain ⟨v2, l2, q1, q2, q3, q4, q5⟩ := hf.arrs i e2 t2' zs ho1
                exact ⟨v2, l2, t2 i v2 (by simpa using h1) q1, q2, reps_on mm b2 t2 hto _ _ q3, by show (if _ then _ else _) = _; rw [if_neg h1]; exact q4, q5⟩
            obtain ⟨vs', hvs, hrun⟩ := resT_ok (nb := 0) hf2 (fun _ _ _ => Nat.zero_le _) rs r z' hres
            have hv : tmps.getD x undef = v := by
              obtain ⟨A, n, cap, q1, q2⟩ := vrep_sl (E := E) (k := k) (t := u) (x := y) (hf.slots x _ trivial hx)
              rw [q1]; exact Option.some.inj (q2.symm.trans hτ)
            refine ⟨E2, v, vs', c, by rw [run_ vs' hrun, hv], rfl, fun i b q => (bb i b q).2, ho, ?_, hvs, fun g hg => ⟨⟨k, hβ.trans hg⟩, fun j => ?_⟩⟩
            · exact reps_on (p := fun _ => false) (allM_le hf2.inv) (fun _ _ q => by cases q) (fun _ _ q => by cases q) (plain_on u' ht) _ _ hr
            · unfold allM
              rw [if_neg (fun ⟨i, _, hi⟩ => (bb i g hi).1 (hf.inj i k g (bb i g hi).2 (hβ.trans hg)))]
              exact hm g j hg
          · cases h
        · cases h
      · cases h
    · rename_i u y hx
      split at h
      · rename_i z' hres
        simp only [Option.some.injEq, Prod.mk.injEq] at h
        obtain ⟨rfl, rfl⟩ := h
        obtain ⟨vs', hvs, hrun⟩ := resT_ok (nb := 0) hf (fun _ _ _ => Nat.zero_le _) rs r z' hres
        have hv : tmps.getD x undef = .slice none 0 0 := vrep_nl (E := E) (t := u) (x := y) (hf.slots x _ trivial hx)
        exact ⟨E, .slice none 0 0, vs', [], by rw [run_ vs' hrun, hv], rfl, fun _ _ q => q, World.ownsRow_nil w 0 e t.size, rfl, hvs, fun g hg => by cases hg⟩
      · cases h
    · cases h
  · cases h

/-- What a function's evaluator gives is what the function does: the first result is the caller's own. -/
theorem sound_funO {sp : Specs} (hsp : ∀ g s, sp g = some s → SoundX P C g s) {f : FuncId} {fn : Func} (hf : P.funcs[f]? = some fn) (hn : (fn.name == "runtime.NumGoroutine") = false) (hb : fn.body.isNone = false) (an : An) (s : SpO)
    (hp : plain s.ps = true) (ht : plain s.t = true) (hr : plain s.rs = true) (hF : ∀ n x, codeK P sp n (bodyOf fn) an (start s.ps x fn.ntmps) (kFinO P s.e s.t s.rs fn) = s.F n x) : SoundO P C f s := by
  refine ⟨fun args w => ?_, fun n x r h m β τ w vs hi hG hv => ?_⟩
  · unfold callFunc
    simp only [Sem.run_bind, run_program, Result.andThen_ok, hf, hn, hb, Bool.false_eq_true, if_false]
    rfl
  · rw [← hF] at h
    obtain ⟨c, hc⟩ : ∃ c, fn.body = some c := by
      cases hq : fn.body with
      | none => rw [hq] at hb; cases hb
      | some c => exact ⟨c, rfl⟩
    have hbody : bodyOf fn = c := by unfold bodyOf; rw [hc]
    rw [hbody] at h
    refine calls_of_wp hf hc ?_
    have hv' : vals ⟨m, fun _ => none, fun _ => none⟩ s.ps x vs := vals_plain (E := ⟨m, β, τ⟩) (E' := ⟨m, fun _ => none, fun _ => none⟩) rfl _ _ _ hp hv
    obtain ⟨hlen, hslots⟩ := start_ok _ _ _ hv'
    have hg : GR C (.of m) w ⟨m, fun _ => none, fun _ => none⟩ (start s.ps x fn.ntmps) (vs.toArray ++ Array.replicate (fn.ntmps - vs.toArray.size) undef) w := by
      refine ⟨⟨?_, fun i q _ hq => ?_, fun i tv ht => ?_, fun i e t xs ht => ?_, fun _ _ _ hb => (nomatch hb), hi⟩, .refl _ _, fun _ _ hb => (nomatch hb), fun _ _ hb => (nomatch hb), fun _ _ => ⟨rfl, rfl⟩, hG, .none_ rfl⟩
      · simp [start, hlen]
      · have hq' : (start.go s.ps x ++ List.replicate (fn.ntmps - (start.go s.ps x).length) Slot.undef)[i]? = some q := hq
        by_cases hlt : i < vs.length
        · rw [List.getElem?_append_left (by omega)] at hq'
          have := hslots i q hq'
          rw [Array.getD_eq_getD_getElem?, Array.getElem?_append_left (by simpa using hlt)]
          rw [List.getD_eq_getElem?_getD] at this
          simpa using this
        · rw [List.getElem?_append_right (by omega)] at hq'
          have hq2 := List.getElem?_replicate .. ▸ hq'
          split at hq2
          · obtain rfl := Option.some.inj hq2
            show _ = undef
            rw [Array.getD_eq_getD_getElem?, Array.getElem?_append_right (by simpa using hlt)]
            rw [Array.getElem?_replicate]
            split <;> rfl
          · cases hq2
      · simp [start] at ht
      · simp [start] at ht
    refine codeK_ok (m0 := .of m) (w0 := w) (r := r) (ds := []) hsp c an _ _ _ ⟨_, []⟩ w _ (An.lo_zero an) h hg rfl fun e st' E' a' w' hk hg' hd' => ?_
    have fin : resO P st' s.e s.t s.rs fn.results.toList = some r → a'.defers = [] ∧ ∃ v, (results fn a'.tmps).run P w' = .ok v w' ∧ (∃ v1 vs' l m', Ending.returned v = .returned (retV (v1 :: vs')) ∧ Chg C m w m' w' ∧ Inv m' w' ∧ w'.ownsRow 0 s.e s.t.size v1 r.1.length l ∧ reps ⟨m', β, τ⟩ s.t r.1 l ∧ vals ⟨m', β, τ⟩ s.rs r.2 vs' ∧ ∀ g, v1.ownBlock = some g → w.heap.size ≤ g ∧ ∀ j, m' g j = none) := fun hres => by
      obtain ⟨E2, v, vs', l, hrun, hm2, hb2, ho, hrp, hvs, hown⟩ := resO_ok hg'.fr ht hres
      have hvs' : vals ⟨allM 0 E2 w', β, τ⟩ s.rs r.2 vs' := vals_plain (E := E2.all 0 w') (E' := ⟨allM 0 E2 w', β, τ⟩) rfl _ _ _ hr hvs
      have hrp' : reps ⟨allM 0 E2 w', β, τ⟩ s.t r.1 l := reps_on (p := fun _ => false) (E := E2.all 0 w') (E' := ⟨allM 0 E2 w', β, τ⟩) (fun b j v q => q) (fun _ _ q => by cases q) (fun _ _ q => by cases q) (plain_on s.t ht) _ _ hrp
      have hi2 : Inv E2.m w' := by rw [hm2]; exact hg'.fr.inv
      refine ⟨hd', _, ?_, ⟨v, vs', l, allM 0 E2 w', rfl, ⟨hg'.chg.os, hg'.chg.tape, hg'.chg.output, hg'.chg.drawn, hg'.chg.size, hg'.chg.heap, fun b hb _ => ?_, fun b j v q => allM_le hi2 b j v (by rw [hm2]; exact hg'.chg.sub b j v q)⟩, allM_inv hi2, ho, hrp', hvs', fun g hg => ?_⟩⟩
      rotate_left
      · rw [show m b = _ from (hg'.chg.mem b hb id).symm]
        funext j
        unfold allM
        rw [if_neg (fun ⟨i, _, hi⟩ => by rcases hg'.own i b (hb2 i b hi) with q | q; omega; exact q), hm2]
      · obtain ⟨⟨i, hi⟩, h2⟩ := hown g hg
        exact ⟨(hg'.own i g hi).resolve_right id, h2⟩
      have hres' : results fn a'.tmps = (do
        let vs ← fn.results.mapM (resV a'.tmps)
        pure (if h : vs.size = 1 then vs[0] else .tuple vs)) := rfl
      rw [hres', Sem.run_bind, Array.mapM_eq_mapM_toList, Sem.run_map, hrun]
      rfl
    cases e with
    | norm => exact fin hk
    | exit id => cases hk
    | ret => exact fin hk
    | pan T k m => cases hk

/-! functions to which boxes are handed -/
def dropN : Nat → List (Option Bx) → List (Option Bx)
  | 0, l => l
  | _ + 1, [] => []
  | n + 1, _ :: r => none :: dropN n r
theorem dropN_get : ∀ (n : Nat) (l : List (Option Bx)) (i : Nat) (c : Bx), (dropN n l)[i]? = some (some c) → n ≤ i ∧ l[i]? = some (some c)
  | 0, _, _, _, h => ⟨Nat.zero_le _, h⟩
  | _ + 1, [], _, _, h => by simp [dropN] at h
  | n + 1, _ :: r, 0, _, h => by simp [dropN] at h
  | n + 1, _ :: r, i + 1, c, h => by
    simp only [dropN, List.getElem?_cons_succ] at h ⊢
    obtain ⟨h1, h2⟩ := dropN_get n r i c h
    exact ⟨Nat.succ_le_succ h1, h2⟩
theorem FR.dropN {X : Nat → Prop} {tmps : Array Value} (hf : FR X E st tmps w) (n : Nat) : FR X E ⟨st.t, YtedenojeljjnaaaGreatDoorPi.dropN n st.b⟩ tmps w :=
  ⟨hf.len, hf.slots, fun i tv h => hf.boxes i tv (dropN_get n _ i _ h).2, fun i e t xs h => hf.arrs i e t xs (dropN_get n _ i _ h).2, hf.inj, hf.inv⟩
/-- What lies in the first boxes at the end. -/
def outB (st st2 : St) : Nat → List (Option TypeId) → (ct : Ty) → Option ct.den
  | _, [], .unit => some ()
  | j, none :: r, .pair a b => match st.b[j]? with
    | some (some (.one tv)) => (match deepT st2 a tv, outB st st2 (j + 1) r b with
      | some x, some y => some (x, y)
      | _, _ => none)
    | _ => none
  | j, some e :: r, .pair (.list t) b => match st.b[j]? with
    | some (some (.arr e' t' xs)) => (match castTV ⟨.list t', xs⟩ (.list t), outB st st2 (j + 1) r b with
      | some x, some y => if e' = e then some (x, y) else none
      | _, _ => none)
    | _ => none
  | _, _, _ => none
def finM (P : Program) (ks : List (Option TypeId)) (ct rs : Ty) (fn : Func) (st : St) : Option (ct.den × rs.den) :=
  match outB st ⟨st.t, dropN ks.length st.b⟩ 0 ks ct with
  | some c => match resT P ⟨st.t, dropN ks.length st.b⟩ rs fn.results.toList with
    | some r => some (c, r)
    | none => none
  | none => none
@[reducible] def kFinM (P : Program) (ks : List (Option TypeId)) (ct rs : Ty) (fn : Func) : Ex → St → Option (ct.den × rs.den) := fun e st => match e with
    | .exit _ => none
    | .pan _ _ _ => none
    | _ => finM P ks ct rs fn st
def startM (ks : List (Option TypeId)) (ct : Ty) (c : ct.den) (ps : Ty) (x : ps.den) (ntmps : Nat) : St := ⟨(start ps x ntmps).t, boxesOf ks ct c⟩

def LastOK (st : St) (E E' : Env) (q : Nat) : Bx → Prop
  | .one tv => ∃ tv0, st.b[q]? = some (some (.one tv0)) ∧ (∀ e, eltOf tv0.t e = eltOf tv.t e) ∧ ∀ cs, rep E tv0.t tv0.x cs → rep E' tv.t tv.x cs
  | .arr e t xs => st.b[q]? = some (some (.arr e t xs)) ∧ t.on (fun _ => false) = true
theorem rep_top {E E' : Env} {ks : List (Option TypeId)} (hm : ∀ b j v, E.m b j = some v → E'.m b j = some v) (hβ : ∀ i b, i < ks.length → E.β i = some b → E'.β i = some b) (hτ : ∀ i v, isA ks i = true → E.τ i = some v → E'.τ i = some v) :
    ∀ (t : Ty) (x : t.den) (cs : List Value), t.top ks = true → rep E t x cs → rep E' t x cs
  | .pair a b, x, cs, h, ⟨c1, c2, e, r1, r2⟩ => by
    simp only [Ty.top, Bool.and_eq_true] at h
    exact ⟨c1, c2, e, rep_top hm hβ hτ a _ _ h.1 r1, rep_top hm hβ hτ b _ _ h.2 r2⟩
  | .ptr i o t, _, _, h, ⟨b, hb, e⟩ => ⟨b, hβ _ _ (by simpa [Ty.top] using h) hb, e⟩
  | .sl k t, _, _, h, ⟨A, n, cap, ht, e⟩ => ⟨A, n, cap, hτ _ _ h ht, e⟩
  | .nif, _, _, _, r => r
  | .ifi _ _, _, _, _, r => r
  | .bld _ i k, _, _, h, ⟨p, A, n, cap, e, ht, hp⟩ => by
    simp only [Ty.top, Bool.and_eq_true, decide_eq_true_eq] at h
    exact ⟨p, A, n, cap, e, hτ _ _ h.2 ht, hp.imp id fun ⟨b, hb, e⟩ => ⟨b, hβ _ _ h.1 hb, e⟩⟩
  | .unit, _, _, _, r | .bool, _, _, _, r | .int _, _, _, _, r | .str, _, _, _, r => r
  | .list t, x, cs, h, r | .nl t, x, cs, h, r | .ref t, x, cs, h, r | .opt t, x, cs, h, r | .ep _ _ _ _, x, cs, h, r | .fn _ _ _, x, cs, h, r => rep_on (p := fun _ => false) hm (fun _ _ q => by cases q) (fun _ _ q => by cases q) _ x cs h r
theorem vals_on0 {E E' : Env} (hm : ∀ b j v, E.m b j = some v → E'.m b j = some v) : ∀ (t : Ty) (x : t.den) (vs : List Value), t.on (fun _ => false) = true → vals E t x vs → vals E' t x vs
  | .unit, _, _, _, r => r
  | .pair a b, _, _, h, ⟨v, vs', e, ⟨cs, r, hv⟩, r2⟩ => by
    simp only [Ty.on, Bool.and_eq_true] at h
    exact ⟨v, vs', e, ⟨cs, rep_on (p := fun _ => false) hm (fun _ _ q => by cases q) (fun _ _ q => by cases q) a _ _ h.1 r, hv⟩, vals_on0 hm b _ _ h.2 r2⟩
  | .bool, _, _, _, r | .int _, _, _, _, r | .str, _, _, _, r | .list _, _, _, _, r | .nl _, _, _, _, r | .sl _ _, _, _, _, r | .ref _, _, _, _, r | .opt _, _, _, _, r | .ptr _ _ _, _, _, _, r | .ep _ _ _ _, _, _, _, r | .fn _ _ _, _, _, _, r | .bld _ _ _, _, _, _, r | .nif, _, _, _, r | .ifi _ _, _, _, _, r => r.elim
theorem boxes_at : ∀ (ks : List (Option TypeId)) (ct : Ty) (c : ct.den), SpM.wf.go ks ct = true → (boxesOf ks ct c).length = ks.length ∧ ∀ i : Nat, ks[i]? = some none → ∃ tv : TV, (boxesOf ks ct c)[i]? = some (some (Bx.one tv)) := by
  intro ks
  induction ks with
  | nil => intro ct c h; refine ⟨by cases ct <;> rfl, fun i hi => by simp at hi⟩
  | cons k ks ih =>
    intro ct c h
    cases k with
    | none =>
      cases ct with
      | pair a b =>
        obtain ⟨h1, h2⟩ := ih b c.2 h
        refine ⟨by simp [boxesOf, h1], fun i hi => ?_⟩
        cases i with
        | zero => exact ⟨_, rfl⟩
        | succ i => exact h2 i hi
      | _ => simp [SpM.wf.go] at h
    | some e =>
      cases ct with
      | pair a b =>
        cases a with
        | list t =>
          simp only [SpM.wf.go, Bool.and_eq_true] at h
          obtain ⟨h1, h2⟩ := ih b c.2 h.2
          refine ⟨by simp [boxesOf, h1], fun i hi => ?_⟩
          cases i with
          | zero => simp at hi
          | succ i => exact h2 i hi
        | _ => simp [SpM.wf.go] at h
      | _ => simp [SpM.wf.go] at h
theorem outB_ok {X : Nat → Prop} {tmps : Array Value} {E E' : Env} {st st2 : St} {nb : Nat} {ks0 : List (Option TypeId)} (hf : FR X E st2 tmps w) (hh : High nb st2.b)
    (hm : ∀ b j v, (E.all nb w).m b j = some v → E'.m b j = some v) (hβ : ∀ i b, i < ks0.length → E.β i = some b → E'.β i = some b) (hτ : ∀ i v, isA ks0 i = true → E.τ i = some v → E'.τ i = some v) :
    ∀ (ks : List (Option TypeId)) (j : Nat) (ct : Ty) (c : ct.den), outB st st2 j ks ct = some c → ct.top ks0 = true → SpM.wf.go ks ct = true → ∀ i bx, (boxesOf ks ct c)[i]? = some (some bx) → LastOK st E E' (j + i) bx := by
  intro ks
  induction ks with
  | nil => intro j ct c h _ _ i bx hb; cases ct <;> simp [boxesOf] at hb
  | cons k ks ih =>
    intro j ct c h ht hw i bx hb
    cases k with
    | none =>
      cases ct with
      | pair a b =>
        simp only [Ty.top, Bool.and_eq_true] at ht
        simp only [outB] at h
        split at h
        · rename_i tv htv
          split at h
          · rename_i x y hx hy
            obtain rfl := Option.some.inj h
            cases i with
            | zero =>
              simp only [boxesOf, List.getElem?_cons_zero, Option.some.injEq] at hb
              subst hb
              exact ⟨tv, htv, fun e => (deep_elt 30 tv.t tv.x e).symm.trans (castTV_elt hx e), fun cs r => rep_top (E := E.all nb w) hm hβ hτ a _ _ ht.1 (castTV_rep hx (deep_ok hf hh 30 _ _ _ r))⟩
            | succ i =>
              simp only [boxesOf, List.getElem?_cons_succ] at hb
              have := ih (j + 1) b y hy ht.2 hw i bx hb
              rwa [show j + (i + 1) = j + 1 + i by omega]
          · cases h
        · cases h
      | _ => simp [SpM.wf.go] at hw
    | some e =>
      cases ct with
      | pair a b =>
        cases a with
        | list t =>
          simp only [Ty.top, Bool.and_eq_true] at ht
          simp only [SpM.wf.go, Bool.and_eq_true] at hw
          simp only [outB] at h
          split at h
          · rename_i e' t' xs htv
            split at h
            · rename_i x y hx hy
              split at h
              · rename_i hee
                subst hee
                obtain rfl := Option.some.inj h
                obtain ⟨rfl, hxx⟩ := cast_list hx
                obtain rfl := eq_of_heq hxx
                cases i with
                | zero =>
                  simp only [boxesOf, List.getElem?_cons_zero, Option.some.injEq] at hb
                  subst hb
                  exact ⟨htv, hw.1⟩
                | succ i =>
                  simp only [boxesOf, List.getElem?_cons_succ] at hb
                  have := ih (j + 1) b y hy ht.2 hw.2 i bx hb
                  rwa [show j + (i + 1) = j + 1 + i by omega]
              · cases h
            · cases h
          · cases h
        | _ => simp [SpM.wf.go] at hw
      | _ => simp [SpM.wf.go] at hw

/-- What a function's evaluator gives is what the function does: boxes of the caller's own are handed to it. -/
theorem sound_funM {sp : Specs} (hsp : ∀ g s, sp g = some s → SoundX P C g s) {f : FuncId} {fn : Func} (hf : P.funcs[f]? = some fn) (hn : (fn.name == "runtime.NumGoroutine") = false) (hb : fn.body.isNone = false) (an : An) (s : SpM)
    (hwf : s.wf = true) (hdead : s.dead = false) (hlo : an.lo s.ks.length = true) (hF : ∀ n c x, codeK P sp n (bodyOf fn) an (startM s.ks s.ct c s.ps x fn.ntmps) (kFinM P s.ks s.ct s.rs fn) = s.F n c x) : SoundM P C f s := by
  have hwf' : s.ct.top s.ks = true ∧ s.ps.top s.ks = true ∧ s.rs.on (fun _ => false) = true ∧ SpM.wf.go s.ks s.ct = true := by
    unfold SpM.wf at hwf
    simp only [Bool.and_eq_true] at hwf
    exact ⟨hwf.1.1.1, hwf.1.1.2, hwf.1.2, hwf.2⟩
  refine ⟨fun args w => ?_, fun n c x c' r h E w vs hfr htop hlt hG hv => ?_⟩
  · unfold callFunc
    simp only [Sem.run_bind, run_program, Result.andThen_ok, hf, hn, hb, Bool.false_eq_true, if_false]
    rfl
  · rw [← hF] at h
    obtain ⟨cd, hc⟩ : ∃ c, fn.body = some c := by
      cases hq : fn.body with
      | none => rw [hq] at hb; cases hb
      | some c => exact ⟨c, rfl⟩
    have hbody : bodyOf fn = cd := by unfold bodyOf; rw [hc]
    rw [hbody] at h
    refine calls_of_wp hf hc ?_
    obtain ⟨hlen, hslots⟩ := start_ok _ _ _ hv
    obtain ⟨hbl, hbat⟩ := boxes_at s.ks s.ct c hwf'.2.2.2
    let m0 : Base := ⟨E.m, fun b => ∃ i, E.β i = some b, s.ks.length, fun i => if s.ks[i]? = some none then E.β i else none⟩
    have hg : GR C m0 w E (startM s.ks s.ct c s.ps x fn.ntmps) (vs.toArray ++ Array.replicate (fn.ntmps - vs.toArray.size) undef) w := by
      refine ⟨⟨?_, fun i q _ hq => ?_, hfr.boxes, hfr.arrs, hfr.inj, hfr.inv⟩, .refl _ _, fun i b hb => .inr ⟨i, hb⟩, hlt, fun i hi => ?_, hG, ⟨?_, fun i g hi hfx tv ht => ?_⟩⟩
      · simp [startM, start, hlen]
      · have hq' : (start.go s.ps x ++ List.replicate (fn.ntmps - (start.go s.ps x).length) Slot.undef)[i]? = some q := hq
        by_cases hlt : i < vs.length
        · rw [List.getElem?_append_left (by omega)] at hq'
          have := hslots i q hq'
          rw [Array.getD_eq_getD_getElem?, Array.getElem?_append_left (by simpa using hlt)]
          rw [List.getD_eq_getElem?_getD] at this
          simpa using this
        · rw [List.getElem?_append_right (by omega)] at hq'
          have hq2 := List.getElem?_replicate .. ▸ hq'
          split at hq2
          · obtain rfl := Option.some.inj hq2
            show _ = undef
            rw [Array.getD_eq_getD_getElem?, Array.getElem?_append_right (by simpa using hlt)]
            rw [Array.getElem?_replicate]
            split <;> rfl
          · cases hq2
      · exact htop i (by rw [← hbl]; exact hi)
      · show s.ks.length ≤ (boxesOf s.ks s.ct c).length
        rw [hbl]; exact Nat.le_refl _
      · have hfx' : (if s.ks[i]? = some none then E.β i else none) = some g := hfx
        split at hfx'
        · exact hfx'
        · cases hfx'
    refine codeK_ok (m0 := m0) (w0 := w) (r := (c', r)) (ds := []) hsp cd an _ _ _ ⟨_, []⟩ w _ hlo h hg rfl fun e st' E1 a' w' hk hg' hd' => ?_
    have fin : finM P s.ks s.ct s.rs fn st' = some (c', r) → a'.defers = [] ∧ ∃ v, (results fn a'.tmps).run P w' = .ok v w' ∧ (∃ v1 E', Ending.returned v = .returned v1 ∧ ChgX (fun b => ∃ i, E.β i = some b) C E.m w E'.m w' ∧ FR (fun _ => True) E' ⟨[], if s.dead = true then [] else boxesOf s.ks s.ct c'⟩ #[] w' ∧
          (∀ i b, E'.β i = some b → ((∃ j, E.β j = some b) ∨ w.heap.size ≤ b) ∧ b < w'.heap.size) ∧ (∀ i, s.ks[i]? = some none → E'.β i = E.β i) ∧ SlotRep E' (retSlot s.rs r) v1) := fun hres => by
      unfold finM at hres
      split at hres
      · rename_i c2 hout
        split at hres
        rotate_left
        · cases hres
        rename_i r2 hrs
        simp only [Option.some.injEq, Prod.mk.injEq] at hres
        obtain ⟨rfl, rfl⟩ := hres
        have hf2 := hg'.fr.dropN s.ks.length
        have hhigh : High s.ks.length (dropN s.ks.length st'.b) := fun i c q => (dropN_get _ _ i c q).1
        obtain ⟨vs', hvs, hrun⟩ := resT_ok (nb := s.ks.length) hf2 hhigh _ _ _ hrs
        let E' : Env := ⟨allM s.ks.length E1 w', fun i => if i < s.ks.length then E1.β i else none, fun i => if i < s.ks.length then E1.τ i else none⟩
        have bL : ∀ i, i < s.ks.length → E'.β i = E1.β i := fun i hi => by show (if _ then _ else _) = _; rw [if_pos hi]
        have tL : ∀ i, i < s.ks.length → E'.τ i = E1.τ i := fun i hi => by show (if _ then _ else _) = _; rw [if_pos hi]
        have bU : ∀ i b, E'.β i = some b → i < s.ks.length ∧ E1.β i = some b := fun i b hb => by
          have hb' : (if i < s.ks.length then E1.β i else none) = some b := hb
          split at hb'
          · exact ⟨by assumption, hb'⟩
          · cases hb'
        have hlast := outB_ok (E := E1) (E' := E') (ks0 := s.ks) hf2 hhigh (fun _ _ _ q => q) (fun i b hi q => by rw [bL i hi]; exact q) (fun i v hi q => by rw [tL i (isA_lt hi).1]; exact q) s.ks 0 s.ct c2 hout hwf'.1 hwf'.2.2.2
        have mno : ∀ i blk, i < s.ks.length → E1.β i = some blk → (∀ j, E1.m blk j = none) → ∀ j, allM s.ks.length E1 w' blk j = none := fun i blk hi hb hm j => by
          unfold allM
          rw [if_neg (fun ⟨q, hq, hqb⟩ => by have := hg'.fr.inj i q blk hb hqb; omega)]
          exact hm j
        refine ⟨hd', _, ?_, _, E', rfl, ⟨hg'.chg.os, hg'.chg.tape, hg'.chg.output, hg'.chg.drawn, hg'.chg.size, hg'.chg.heap, fun b hb hx => ?_, fun b j v q => allM_le hg'.fr.inv b j v (hg'.chg.sub b j v q)⟩,
          ⟨rfl, fun i sl _ hs => by simp at hs, fun i tv hi0 => ?_, fun i e t xs hi0 => ?_, fun i j b hbi hbj => hg'.fr.inj i j b (bU i b hbi).2 (bU j b hbj).2, allM_inv hg'.fr.inv⟩, fun i b hb => ⟨(hg'.own i b (bU i b hb).2).symm, hg'.lt i b (bU i b hb).2⟩, fun i hi => ?_, vals_ret _ _ _ (vals_on0 (E := E1.all s.ks.length w') (E' := E') (fun _ _ _ q => q) _ _ _ hwf'.2.2.1 hvs)⟩
        · have hres' : results fn a'.tmps = (do
            let vs ← fn.results.mapM (resV a'.tmps)
            pure (if h : vs.size = 1 then vs[0] else .tuple vs)) := rfl
          rw [hres', Sem.run_bind, Array.mapM_eq_mapM_toList, Sem.run_map, hrun]
          rfl
        · rw [show E.m b = _ from (hg'.chg.mem b hb hx).symm]
          funext j
          show allM s.ks.length E1 w' b j = _
          unfold allM
          rw [if_neg (fun ⟨i, _, hi⟩ => by rcases hg'.own i b hi with q | q; omega; exact hx q)]
        · have hi : (boxesOf s.ks s.ct c2)[i]? = some (some (.one tv)) := by
            have hi1 : (if s.dead = true then [] else boxesOf s.ks s.ct c2)[i]? = some (some (.one tv)) := hi0
            rw [hdead] at hi1; exact hi1
          obtain ⟨tv0, h0, hel, hr⟩ := hlast i _ hi
          rw [Nat.zero_add] at h0
          obtain ⟨blk, cs, e2, hb, hh, hrp, hm⟩ := hg'.fr.boxes i tv0 h0
          have hil := (boxes_kind _ _ _ _ _ hi).1
          exact ⟨blk, cs, e2, by rw [bL i hil]; exact hb, by rw [← hel]; exact hh, hr cs hrp, mno i blk hil hb hm⟩
        · have hi : (boxesOf s.ks s.ct c2)[i]? = some (some (.arr e t xs)) := by
            have hi1 : (if s.dead = true then [] else boxesOf s.ks s.ct c2)[i]? = some (some (.arr e t xs)) := hi0
            rw [hdead] at hi1; exact hi1
          obtain ⟨h0, hto⟩ := hlast i _ hi
          rw [Nat.zero_add] at h0
          obtain ⟨v, l2, q1, q2, q3, q4, q5⟩ := hg'.fr.arrs i e t xs h0
          have hil := (boxes_kind _ _ _ _ _ hi).1
          exact ⟨v, l2, by rw [tL i hil]; exact q1, q2, reps_on (p := fun _ => false) (E := E1) (E' := E') (fun b j u z => allM_le hg'.fr.inv b j u z) (fun _ _ z => by cases z) (fun _ _ z => by cases z) hto _ _ q3, by rw [bL i hil]; exact q4, fun g j hg => mno i g hil (q4.trans hg) (fun j => q5 g j hg) j⟩
        · have hil : i < s.ks.length := (List.getElem?_eq_some_iff.1 hi).1
          obtain ⟨_, hbat2⟩ := boxes_at s.ks s.ct c2 hwf'.2.2.2
          obtain ⟨tv, htv⟩ := hbat2 i hi
          obtain ⟨tv0, h0, _⟩ := hlast i _ htv
          rw [Nat.zero_add] at h0
          obtain ⟨tv1, h1⟩ := hbat i hi
          obtain ⟨blk, _, _, hb, _⟩ := hfr.boxes i tv1 h1
          have := hg'.fx.2 i blk hil (by show (if s.ks[i]? = some none then E.β i else none) = some blk; rw [if_pos hi]; exact hb) tv0 h0
          rw [bL i hil, this]; exact hb.symm
      · cases hres
    cases e with
    | norm => exact fin hk
    | exit id => cases hk
    | ret => exact fin hk
    | pan T k m => cases hk
end
end Go.Proofs.YtedenojeljjnaaaGreatDoorPi

namespace Go.Proofs.YtedenojeljjnaaaGreatDoorPi
open Go

theorem codeK_R {R : Type} {P : Program} {sp : Specs} {n : Nat} : ∀ (c : Code) (an : An) (st : St) (K : Ex → St → Option R), codeK P sp n c an st K = codeR (codeK P sp n) P sp n c an st K := by
  intro c
  induction c with
  | skip => intro an st K; rfl
  | region id ops draw => intro an st K; cases draw <;> rfl
  | seq x y ihx ihy =>
    intro an st K
    have h : codeK P sp n (.seq x y) an st K = codeK P sp n x an.left st (kSeq (fun st' => codeK P sp n y an.right st' K) an K) := rfl
    rw [h, ihx]
    cases an with
    | k l nb p q => rfl
    | _ =>
      show codeR _ P sp n x _ st _ = codeR _ P sp n x _ st _
      congr 1
      funext e st'
      cases e <;> first | exact ihy _ _ _ | rfl
  | cond c x y ihx ihy =>
    intro an st K
    simp only [codeK, codeR, ihx, ihy]
  | block id x ih =>
    intro an st K
    have h : codeK P sp n (.block id x) an st K = codeK P sp n x an.left st (kBlk id K) := rfl
    rw [h, ih]
    rfl
  | loop x ih =>
    intro an st K
    have h : codeK P sp n (.loop x) an st K = rounds (fun rec st => codeK P sp n x an.left st (kSeq rec an K)) n (st.keepA an) := rfl
    rw [h]
    have h2 : (fun (rec : St → Option R) st => codeK P sp n x an.left st (kSeq rec an K)) = fun rec st => codeR (codeK P sp n) P sp n x an.left st (kSeq rec an K) := by
      funext rec st; exact ih _ _ _
    rw [h2]
    rfl
  | exit id => intro an st K; rfl
  | label l => intro an st K; rfl
  | ret => intro an st K; rfl
  | _ => intro an st K; rfl

theorem rounds_mk {R σ : Type} (mk : σ → St) {f : (St → Option R) → St → Option R} {g : (σ → Option R) → σ → Option R} (h : ∀ rec x, f rec (mk x) = g (fun y => rec (mk y)) x) : ∀ n x, rounds f n (mk x) = rounds g n x
  | 0, _ => rfl
  | n + 1, x => by
    show f (rounds f n) (mk x) = g (rounds g n) x
    rw [h]
    congr 1
    funext y
    exact rounds_mk mk h n y

def look : List (Nat × SpX) → Specs
  | [], _ => none
  | (g, s) :: l, i => if i = g then some s else look l i
theorem look_nil {P : Program} {C : Ctx} : ∀ g s, look [] g = some s → SoundX P C g s := fun _ _ h => by cases h
theorem look_cons {P : Program} {C : Ctx} {g0 : Nat} {s0 : SpX} {l : List (Nat × SpX)} (h0 : SoundX P C g0 s0) (hl : ∀ g s, look l g = some s → SoundX P C g s) : ∀ g s, look ((g0, s0) :: l) g = some s → SoundX P C g s := fun g s h => by
  simp only [look] at h
  split at h
  · rename_i e; subst e; obtain rfl := Option.some.inj h; exact h0
  · exact hl g s h

/-- A function, by its body's equation. -/
theorem sound_of {P : Program} {C : Ctx} {sp : Specs} (hsp : ∀ g s, sp g = some s → SoundX P C g s) {f : FuncId} {fn : Func} (hf : P.funcs[f]? = some fn) (hn : (fn.name == "runtime.NumGoroutine") = false) (hb : fn.body.isNone = false) (an : An) (s : Sp)
    (hp : plain s.ps = true) (hr : plain s.rs = true) (hF : ∀ n x, codeK P sp n (bodyOf fn) an (start s.ps x fn.ntmps) (kFin P s.rs fn) = s.F n x) : Sound P C f s :=
  sound_fun hsp hf hn hb an s hp hr fun n x => by
    rw [← hF n x]
    unfold funK bodyOf
    cases h : fn.body with
    | none => rw [h] at hb; cases hb
    | some c => rfl
/-- Slots that hold nothing, ahead of others. -/
def jk : Nat → List Slot → List Slot
  | 0, l => l
  | n + 1, l => .junk :: jk n l
abbrev RC (R : Type) := Code → An → St → (Ex → St → R) → R
end Go.Proofs.YtedenojeljjnaaaGreatDoorPi

namespace Go.Proofs.YtedenojeljjnaaaGreatDoorPi
open Go Go.ChangeShapes Go.WideShapes
section
variable {H : Type} {enc : TypeId × Value → H} {P : Program} {w : World} {base : Nat} {sp : Nat → Bool} {held : Bool}

/-! arguments, as they come -/
def inFs (P : Program) (chk : TypeId → Ty → Bool) : List Field → Ty → Nat → Bool
  | [], .unit, _ => true
  | f :: fs, .pair a b, off => f.offset == off && P.cellsOf f.type == a.size && chk f.type a && inFs P chk fs b (off + a.size)
  | _, _, _ => false
def inTy (P : Program) : Nat → TypeId → Ty → Bool
  | 0, _, _ => false
  | n + 1, t, T => match P.underlying t, T with
    | some .bool, .bool => true
    | some (.int k), .int k' => k == k'
    | some .string, .str => true
    | some (.slice e), .list U => P.cellsOf e == U.size && decide (0 < U.size) && inTy P n e U
    | some (.struct fs), T => T.isAgg && P.cellsOf t == T.size && inFs P (inTy P n) fs.toList T 0
    | _, _ => false

def good : (t : Ty) → t.den → Prop
  | .int k, n => (Lit.int k n).wf = true
  | .str, s => s.size ≤ maxLen
  | .pair a b, x => good a x.1 ∧ good b x.2
  | .list t, xs => xs.length ≤ maxLen ∧ ∀ x ∈ xs, good t x
  | _, _ => True

def mm (w : World) : Mem := fun b j => w.cell? ⟨b, j, none⟩
abbrev e0 (w : World) : Env := ⟨mm w, fun _ => none, fun _ => none⟩

theorem mapM_at {α β : Type} {f : α → Option β} : ∀ {l : List α} {r : List β}, l.mapM f = some r → ∀ (i : Nat) x, l[i]? = some x → ∃ y, r[i]? = some y ∧ f x = some y
  | [], r, h, i, x, hx => by simp at hx
  | a :: l, r, h, i, x, hx => by
    rw [List.mapM_cons] at h
    cases ha : f a with
    | none => rw [ha] at h; cases h
    | some b =>
      cases hl : l.mapM f with
      | none => rw [ha, hl] at h; cases h
      | some bs =>
        rw [ha, hl] at h
        obtain rfl : b :: bs = r := Option.some.inj h
        cases i with
        | zero => obtain rfl : a = x := Option.some.inj hx; exact ⟨b, rfl, ha⟩
        | succ i => exact mapM_at hl i x hx
theorem mapM_len {α β : Type} {f : α → Option β} : ∀ {l : List α} {r : List β}, l.mapM f = some r → r.length = l.length
  | [], r, h => by rw [List.mapM_nil] at h; obtain rfl : [] = r := Option.some.inj h; rfl
  | a :: l, r, h => by
    rw [List.mapM_cons] at h
    cases ha : f a with
    | none => rw [ha] at h; cases h
    | some b =>
      cases hl : l.mapM f with
      | none => rw [ha, hl] at h; cases h
      | some bs =>
        rw [ha, hl] at h
        obtain rfl : b :: bs = r := Option.some.inj h
        simp [mapM_len hl]
theorem cells_at {a : Addr} {n : Nat} {cs : List Value} (h : w.cells? base a n = some cs) : cs.length = n ∧ ∀ j v, cs[j]? = some v → w.cell? (a.add j) = some v := by
  unfold World.cells? at h
  split at h
  · refine ⟨by rw [mapM_len h, List.length_range], fun j v hj => ?_⟩
    have hl := mapM_len h
    have hlt := (List.getElem?_eq_some_iff.1 hj).1
    rw [List.length_range] at hl
    obtain ⟨y, hy, hf⟩ := mapM_at h j j (by rw [List.getElem?_range (by omega)])
    rw [hj] at hy
    obtain rfl := Option.some.inj hy
    exact hf
  · cases h
theorem spot_none {a : Addr} {v : Value} (h : w.cell? a = some v) : a.spot = none := by
  unfold World.cell? at h
  split at h
  · split at h
    · cases h
    · rename_i hs; cases hh : a.spot with
      | none => rfl
      | some x => rw [hh] at hs; simp at hs
  · cases h
theorem add_at {a : Addr} (h : a.spot = none) (n : Nat) : a.add n = ⟨a.block, a.off + n, none⟩ := by
  unfold Addr.add; split
  · rename_i hz; obtain ⟨b, o, s⟩ := a; simp only at h; subst h; simp [hz]
  · rfl
theorem choose_list {α : Type} {Q : Nat → α → Prop} : ∀ (n : Nat), (∀ i, i < n → ∃ x, Q i x) → ∃ xs : List α, xs.length = n ∧ ∀ (i : Nat) x, xs[i]? = some x → Q i x
  | 0, _ => ⟨[], rfl, fun i x h => by simp at h⟩
  | n + 1, h => by
    obtain ⟨xs, hl, hx⟩ := choose_list n (fun i hi => h i (by omega))
    obtain ⟨y, hy⟩ := h n (by omega)
    refine ⟨xs ++ [y], by simp [hl], fun i x hi => ?_⟩
    by_cases hlt : i < n
    · rw [List.getElem?_append_left (by omega)] at hi; exact hx i x hi
    · have hi' := (List.getElem?_eq_some_iff.1 hi).1
      rw [List.length_append, hl] at hi'
      have : i = n := by simp at hi'; omega
      subst this
      rw [List.getElem?_append_right (by omega), hl, Nat.sub_self] at hi
      obtain rfl : y = x := Option.some.inj hi
      exact hy

theorem open_fs {chk : TypeId → Ty → Bool} {r : TypeId → List Value → Option (DataW H × List MemPlace)} {cs : List Value}
    (hr : ∀ t T c y, chk t T = true → r t c = some y → ∃ x : T.den, rep (e0 w) T x c ∧ good T x) : ∀ (fs : List Field) (T : Ty) (off : Nat), inFs P chk fs T off = true → cs.length = off + T.size →
      (∀ (i : Nat) (f : Field), fs[i]? = some f → ∃ y, r f.type ((cs.drop f.offset).take (P.cellsOf f.type)) = some y) → ∃ x : T.den, rep (e0 w) T x (cs.drop off) ∧ good T x
  | [], .unit, off, _, hl, _ => ⟨(), by show cs.drop off = []; exact List.drop_eq_nil_of_le (by simp [Ty.size] at hl; omega), trivial⟩
  | f :: fs, .pair a b, off, h, hl, hf => by
    simp only [inFs, Bool.and_eq_true, beq_iff_eq] at h
    obtain ⟨⟨⟨h1, h2⟩, h3⟩, h4⟩ := h
    simp only [Ty.size] at hl
    obtain ⟨y, hy⟩ := hf 0 f rfl
    obtain ⟨x1, r1, g1⟩ := hr _ _ _ _ h3 hy
    obtain ⟨x2, r2, g2⟩ := open_fs hr fs b (off + a.size) h4 (by omega) (fun i f' hi => hf (i + 1) f' hi)
    refine ⟨(x1, x2), ⟨(cs.drop off).take a.size, cs.drop (off + a.size), ?_, ?_, r2⟩, g1, g2⟩
    · rw [← List.drop_drop, List.take_append_drop]
    · rw [h1, h2] at r1; exact r1
  | [], .bool, _, h, _, _ | [], .int _, _, h, _, _ | [], .str, _, h, _, _ | [], .pair _ _, _, h, _, _ | [], .list _, _, h, _, _ | [], .nl _, _, h, _, _ | [], .opt _, _, h, _, _ | [], .ep _ _ _ _, _, h, _, _ | [], .sl _ _, _, h, _, _ | [], .ref _, _, h, _, _ | [], .ptr _ _ _, _, h, _, _ | [], .fn _ _ _, _, h, _, _ => by simp [inFs] at h
  | _ :: _, .unit, _, h, _, _ | _ :: _, .bool, _, h, _, _ | _ :: _, .int _, _, h, _, _ | _ :: _, .str, _, h, _, _ | _ :: _, .list _, _, h, _, _ | _ :: _, .nl _, _, h, _, _ | _ :: _, .opt _, _, h, _, _ | _ :: _, .ep _ _ _ _, _, h, _, _ | _ :: _, .sl _ _, _, h, _, _ | _ :: _, .ref _, _, h, _, _ | _ :: _, .ptr _ _ _, _, h, _, _ | _ :: _, .fn _ _ _, _, h, _, _ => by simp [inFs] at h

theorem open_cells : ∀ (n : Nat) (t : TypeId) (T : Ty), inTy P n t T = true → ∀ (fuel : Nat) (cs : List Value) (y : DataW H × List MemPlace), DataW.trod enc P w base sp held fuel t cs = some y → ∃ x : T.den, rep (e0 w) T x cs ∧ good T x
  | 0, _, _, h, _, _, _, _ => by simp [inTy] at h
  | n + 1, t, T, h, fuel, cs, y, hy => by
    simp only [inTy] at h
    split at h
    · rename_i hu
      obtain ⟨b, rfl, _⟩ := DataW.trod_bool hu hy
      exact ⟨b, rfl, trivial⟩
    · rename_i k k' hu
      obtain rfl := beq_iff_eq.1 h
      obtain ⟨m, rfl, _, hw⟩ := DataW.trod_int hu hy
      exact ⟨m, rfl, hw⟩
    · rename_i hu
      obtain ⟨s, rfl, _, hs⟩ := DataW.trod_string hu hy
      exact ⟨s, rfl, hs⟩
    · rename_i e U hu
      simp only [Bool.and_eq_true, beq_iff_eq, decide_eq_true_eq] at h
      obtain ⟨⟨hc, hpos⟩, hin⟩ := h
      rcases DataW.trod_slice hu hy with ⟨rfl, _⟩ | ⟨a, len, cap, elems, rest, m, _, rfl, _, _, hlc, hcap, hel, hat, _⟩
      · exact ⟨[], ⟨none, 0, rfl, fun _ => rfl, Nat.le_refl _, fun i x hx => by simp at hx⟩, Nat.zero_le _, fun x hx => by simp at hx⟩
      · have one : ∀ i, i < len → ∃ x : U.den, ∃ c, a.spot = none ∧ rep (e0 w) U x c ∧ Row (mm w) ⟨a.block, a.off + i * U.size, none⟩ c ∧ good U x := by
          intro i hi
          have sp0 : a.spot = none := by
            have h0 := hat 0 (by omega)
            rw [List.getElem?_eq_getElem (by omega), Option.bind_eq_some_iff] at h0
            obtain ⟨c0, hc0, _⟩ := h0
            obtain ⟨hl0, hc0'⟩ := cells_at hc0
            have hlt : 0 < c0.length := by omega
            have := hc0' 0 _ (List.getElem?_eq_getElem hlt)
            rw [Nat.zero_mul] at this
            exact spot_none this
          have hi' := hat i hi
          rw [List.getElem?_eq_getElem (by omega), Option.bind_eq_some_iff] at hi'
          obtain ⟨c, hcc, htr⟩ := hi'
          obtain ⟨x, hr, hg⟩ := open_cells n e U hin m c _ htr
          obtain ⟨_, hcat⟩ := cells_at hcc
          refine ⟨x, c, sp0, hr, ⟨rfl, fun j v hj => ?_⟩, hg⟩
          have := hcat j v hj
          rw [hc, add_at sp0, add_at rfl] at this
          exact this
        obtain ⟨xs, hl, hx⟩ := choose_list len one
        refine ⟨xs, ⟨some a, cap, by rw [hl], fun q => (nomatch q), by rw [hl]; exact hlc, fun i x hi => ?_⟩, by rw [hl]; exact Nat.le_trans hlc hcap, fun x hx' => ?_⟩
        · obtain ⟨c, s, r, rw', _⟩ := hx i x hi
          exact ⟨a, c, rfl, s, r, rw'⟩
        · obtain ⟨i, hi⟩ := List.getElem?_of_mem hx'
          obtain ⟨_, _, _, _, g⟩ := hx i x hi
          exact g
    · rename_i fs hu
      simp only [Bool.and_eq_true, beq_iff_eq] at h
      obtain ⟨⟨_, hcz⟩, hfs⟩ := h
      obtain ⟨xs, m, _, _, hl, hxl, hat⟩ := DataW.trod_struct hu hy
      have := open_fs (P := P) (w := w) (cs := cs) (r := DataW.trod enc P w base sp held m) (fun t' T' c y' h1 h2 => open_cells n t' T' h1 m c y' h2) fs.toList _ 0 hfs (by omega) (fun i f hi => by
        have hi' : fs[i]? = some f := by simpa using hi
        have h2 := hat i f hi'
        have hlt : i < xs.length := by rw [hxl]; exact (Array.getElem?_eq_some_iff.1 hi').1
        exact ⟨xs[i], by rw [h2, List.getElem?_eq_getElem hlt]⟩)
      exact this
    · cases h

theorem open_val {n : Nat} {t : TypeId} {T : Ty} {r : Reach} {b0 : Nat} {v : Value} {d : DataW H} {ps : List MemPlace} (h : inTy P n t T = true) (hok : Value.okWide P w r b0 t v) (hd : DataW.Trod enc P w base sp held t v d ps) :
    ∃ x : T.den, VRep (e0 w) T x v ∧ good T x := by
  obtain ⟨fuel, hf⟩ := hd
  obtain ⟨x, hr, hg⟩ := open_cells n t T h fuel _ _ hf
  refine ⟨x, ⟨_, hr, ?_⟩, hg⟩
  cases n with
  | zero => simp [inTy] at h
  | succ n =>
    simp only [inTy] at h
    split at h
    · rename_i hu; obtain ⟨b, rfl⟩ := okWide_bool hu hok; rfl
    · rename_i hu; obtain ⟨b, rfl⟩ := okWide_int hu hok; rfl
    · rename_i hu; obtain ⟨b, rfl⟩ := okWide_string hu hok; rfl
    · rename_i hu; obtain ⟨a, l, c, rfl⟩ := okWide_slice hu hok; rfl
    · rename_i fs hu
      simp only [Bool.and_eq_true] at h
      unfold Value.okWide at hok
      rw [hu] at hok
      obtain ⟨cs, rfl, _⟩ := hok
      unfold mkV; rw [if_pos h.1.1]; simp [Value.cells]
    · cases h

def inAll (P : Program) (n : Nat) : List TypeId → Ty → Bool
  | [], .unit => true
  | t :: ts, .pair a b => inTy P n t a && inAll P n ts b
  | _, _ => false
def goods : (t : Ty) → t.den → Prop
  | .pair a b, x => good a x.1 ∧ goods b x.2
  | _, _ => True
theorem open_all {n : Nat} {r : Reach} {b0 : Nat} : ∀ (ts : List TypeId) (T : Ty) (vs : List Value) (ds : List (DataW H)) (ps : List MemPlace), inAll P n ts T = true → (∀ (j : Nat) t v, ts[j]? = some t → vs[j]? = some v → Value.okWide P w r b0 t v) →
    DataW.TrodAll enc P w base sp held ts vs ds ps → ∃ x : T.den, vals (e0 w) T x vs ∧ goods T x ∧ ds.length = ts.length
  | [], .unit, [], [], _, _, _, _ => ⟨(), rfl, trivial, rfl⟩
  | t :: ts, .pair a b, v :: vs, d :: ds, _, h, hok, ⟨p, q, h1, h2, _⟩ => by
    simp only [inAll, Bool.and_eq_true] at h
    obtain ⟨x, hx, gx⟩ := open_val h.1 (hok 0 t v rfl rfl) h1
    obtain ⟨y, hy, gy, hl⟩ := open_all ts b vs ds q h.2 (fun j t' v' ht hv => hok (j + 1) t' v' ht hv) h2
    exact ⟨(x, y), ⟨v, vs, rfl, hx, hy⟩, ⟨gx, gy⟩, by simp [hl]⟩
  | [], .unit, _ :: _, _, _, _, _, h | [], .unit, [], _ :: _, _, _, _, h => by simp [DataW.TrodAll] at h
  | _ :: _, .pair _ _, [], _, _, _, _, h | _ :: _, .pair _ _, _ :: _, [], _, _, _, h => by simp [DataW.TrodAll] at h
   | [], .bool, _, _, _, h, _, _ | [], .int _, _, _, _, h, _, _ | [], .str, _, _, _, h, _, _ | [], .pair _ _, _, _, _, h, _, _ | [], .list _, _, _, _, h, _, _ | [], .nl _, _, _, _, h, _, _ | [], .opt _, _, _, _, h, _, _ | [], .ep _ _ _ _, _, _, _, h, _, _ | [], .sl _ _, _, _, _, h, _, _ | [], .ref _, _, _, _, h, _, _ | [], .ptr _ _ _, _, _, _, h, _, _ | [], .fn _ _ _, _, _, _, h, _, _ => by simp [inAll] at h
  | _ :: _, .unit, _, _, _, h, _, _ | _ :: _, .bool, _, _, _, h, _, _ | _ :: _, .int _, _, _, _, h, _, _ | _ :: _, .str, _, _, _, h, _, _ | _ :: _, .list _, _, _, _, h, _, _ | _ :: _, .sl _ _, _, _, _, h, _, _ | _ :: _, .ref _, _, _, _, h, _, _ | _ :: _, .ptr _ _ _, _, _, _, h, _, _ | _ :: _, .fn _ _ _, _, _, _, h, _, _ => by simp [inAll] at h

/-- Behind a call that changes nothing of old the arguments read as they did. -/
theorem close_all {w' : World} (hk : Kids P (· < P.types.size)) (hz : ((List.range P.types.size).all fun t => match P.underlying t with | some (.slice e) => decide (0 < P.cellsOf e) | _ => true) = true)
    (hb : ∀ b, b < w.heap.size → w'.heap[b]? = w.heap[b]?) {ts : List TypeId} {vs : List Value} {ds : List (DataW H)} {ps : List MemPlace} (hts : ∀ t ∈ ts, t < P.types.size) (h : DataW.TrodAll enc P w 0 (fun _ => true) true ts vs ds ps) :
    DataW.TrodAll enc P w' 0 (fun b => decide (b < w.heap.size)) true ts vs ds ps := by
  have hlt := h.lt
  have h1 := DataW.TrodAll.respare (spare' := fun b => decide (b < w.heap.size)) hk (slices_full_of P hz) hts h (fun p hp => by simpa using hlt p hp)
  have same : ∀ p : MemPlace, p.block < w.heap.size → w.sameAt w' p := fun p hp => by
    cases p with
    | cell b off => show w'.cell? _ = w.cell? _; unfold World.cell?; rw [hb b hp]
    | map b => exact hb b hp
  clear h hts
  revert hlt
  induction ts generalizing vs ds ps with
  | nil => intro _; cases vs <;> cases ds <;> first | exact h1 | simp [DataW.TrodAll] at h1
  | cons t ts ih =>
    intro hlt
    cases vs with
    | nil => simp [DataW.TrodAll] at h1
    | cons v vs => cases ds with
      | nil => simp [DataW.TrodAll] at h1
      | cons d ds =>
        obtain ⟨p, q, ⟨fuel, hf⟩, h3, rfl⟩ := h1
        exact ⟨p, q, ⟨fuel, DataW.trod_carry fuel t _ _ hf (fun x hx => same x (hlt x (List.mem_append_left _ hx)))⟩, ih h3 (fun x hx => hlt x (List.mem_append_right _ hx)), rfl⟩
end
/-! the smallest arguments -/
def zcells : Ty → List Value
  | .bool => [.bool false] | .int k => [.int k 0] | .str => [.string ⟨#[]⟩] | .pair a b => zcells a ++ zcells b | .list _ => [.slice none 0 0] | _ => []
def zvals : Ty → List Value
  | .pair a b => mkV a (zcells a) :: zvals b
  | _ => []
theorem list1 {α : Type} {l : List α} (h : l.length = 1) : ∃ a, l = [a] := by match l, h with | [a], _ => exact ⟨a, rfl⟩
theorem list2 {α : Type} {l : List α} (h : l.length = 2) : ∃ a b, l = [a, b] := by match l, h with | [a, b], _ => exact ⟨a, b, rfl⟩
theorem list3 {α : Type} {l : List α} (h : l.length = 3) : ∃ a b c, l = [a, b, c] := by match l, h with | [a, b, c], _ => exact ⟨a, b, c, rfl⟩
theorem list4 {α : Type} {l : List α} (h : l.length = 4) : ∃ a b c d, l = [a, b, c, d] := by match l, h with | [a, b, c, d], _ => exact ⟨a, b, c, d, rfl⟩
theorem list5 {α : Type} {l : List α} (h : l.length = 5) : ∃ a b c d e, l = [a, b, c, d, e] := by match l, h with | [a, b, c, d, e], _ => exact ⟨a, b, c, d, e, rfl⟩
theorem list6 {α : Type} {l : List α} (h : l.length = 6) : ∃ a b c d e f, l = [a, b, c, d, e, f] := by match l, h with | [a, b, c, d, e, f], _ => exact ⟨a, b, c, d, e, f, rfl⟩
end Go.Proofs.YtedenojeljjnaaaGreatDoorPi

namespace Go.Proofs.YtedenojeljjnaaaGreatDoorPi
open Go

theorem put_get {a : Act} {d : Tmp} {v : Value} (h : d < a.tmps.size) : (a.put (some d) v).eval (.tmp d) = v := by
  show (a.tmps.setIfInBounds d v).getD d undef = v
  simp [Array.getD_eq_getD_getElem?, h]
theorem put_size (a : Act) (d : Option Tmp) (v : Value) : (a.put d v).tmps.size = a.tmps.size := by
  cases d with
  | none => rfl
  | some d => exact Array.size_setIfInBounds

/-- A deferred function that asks what was panicked with, where nothing was. -/
theorem rec_nothing {P : Program} {f : FuncId} {fn : Func} {i1 i2 : Nat} {x : Code} {o1 o2 o3 o4 : Oper} {r e m c : Tmp} {t t' : TypeId} {ms : Array (String × TypeId)}
    (hf : P.funcs[f]? = some fn) (hb : fn.body = some (.seq (.region i1 #[o1, o2] false) (.seq (.region i2 #[o3, o4] false) (.cond (.tmp c) x .skip))))
    (k1 : o1.op = .call ⟨.builtin .recover, #[], #[]⟩) (k2 : o2.op = .assign (.tmp r)) (k3 : o3.op = .move (.tmp e)) (k4 : o4.op = .binOp .neq t (.tmp m) (.const .nilIface) t')
    (d1 : o1.dst = some r) (d2 : o2.dst = some e) (d3 : o3.dst = some m) (d4 : o4.dst = some c) (g1 : o1.guard = none) (g2 : o2.guard = none) (g3 : o3.guard = none) (g4 : o4.guard = none)
    (hr : fn.results = #[]) (ht : P.underlying t = some (.interface ms)) (h1 : r < fn.ntmps) (h2 : e < fn.ntmps) (h3 : m < fn.ntmps) (h4 : c < fn.ntmps) (args : Array Value) (w : World) :
    CallsD P f args .returning w fun e u w' => e = .returned (.tuple #[]) ∧ u = .returning ∧ w' = w := by
  refine callsD_of_wpS hf hb fun c0 cs hu => wpS_seq (wpS_region ?_)
  generalize ha : ({ tmps := args ++ Array.replicate (fn.ntmps - args.size) undef, defers := [] } : Act) = a
  have hs : fn.ntmps ≤ a.tmps.size := by rw [← ha]; simp; omega
  have hd : a.defers = [] := by rw [← ha]
  show wpOpsS P _ _ [0, 1] a (c0 :: cs) w
  have e1 : ∀ ρ, (execOp ρ o1).run P w = .ok .recover w := fun ρ => by
    unfold execOp
    simp [k1, resolve, invoke, builtin]
  have hrec : recoverD (c0 :: cs) = none := by simp [recoverD, hu]
  have q1 : (#[o1, o2] : Array Oper)[0]? = some o1 := rfl
  have q2 : (#[o1, o2] : Array Oper)[1]? = some o2 := rfl
  have q3 : (#[o3, o4] : Array Oper)[0]? = some o3 := rfl
  have q4 : (#[o3, o4] : Array Oper)[1]? = some o4 := rfl
  have e2 : (execOp (a.put (some r) .nilIface).eval o2).run P w = .ok (.value .nilIface) w := by
    have hm : (a.put (some r) .nilIface).eval (.tmp r) = .nilIface := put_get (Nat.lt_of_lt_of_le h1 hs)
    unfold execOp
    simp [k2, hm]
  simp only [wpOpsS, q1, q2, Region.wanted, g1, g2, if_true, e1, hrec, d1, e2, Oper.upon, d2, Exit.thenS]
  refine wpS_seq (wpS_region ?_)
  show wpOpsS P _ _ [0, 1] _ (c0 :: cs) w
  generalize hb' : ((a.put (some r) .nilIface).put (some e) .nilIface) = b
  have hbs : b.tmps.size = a.tmps.size := by rw [← hb', put_size, put_size]
  have hbe : b.eval (.tmp e) = .nilIface := by rw [← hb']; exact put_get (by rw [put_size]; exact Nat.lt_of_lt_of_le h2 hs)
  have hbd : b.defers = [] := by rw [← hb', put_defers, put_defers]; exact hd
  have e3 : (execOp b.eval o3).run P w = .ok (.value .nilIface) w := by
    unfold execOp
    simp [k3, hbe]
  have e4 : (execOp (b.put (some m) .nilIface).eval o4).run P w = .ok (.value (.bool false)) w := by
    have hm : (b.put (some m) .nilIface).eval (.tmp m) = .nilIface := put_get (by rw [hbs]; exact Nat.lt_of_lt_of_le h3 hs)
    have hc : (b.put (some m) .nilIface).eval (.const .nilIface) = .nilIface := rfl
    unfold execOp
    simp only [k4, hm, hc]
    have hg : (eqGuard .neq t (.tmp m) (.const .nilIface) .nilIface .nilIface).run P w = .ok () w := by unfold eqGuard; rfl
    have hq : (Op.equal t .nilIface .nilIface).run P w = .ok true w := by
      unfold Op.equal Op.maxDepth Op.equalIn
      rw [Sem.run_bind, run_underlying ht, Result.andThen_ok]
      rfl
    simp only [Sem.run_bind, hg, Result.andThen_ok, binOp, hq]
    rfl
  simp only [wpOpsS, q3, q4, Region.wanted, g3, g4, if_true, e3, d3, e4, Oper.upon, d4, Exit.thenS]
  refine wpS_cond (t := false) (put_get (by rw [put_size, hbs]; exact Nat.lt_of_lt_of_le h4 hs)) ?_
  rw [if_neg (by simp)]
  refine wpS_of_wp (wp_skip ?_)
  refine ⟨by rw [put_defers, put_defers]; exact hbd, .returning, ?_, .tuple #[], ?_, rfl, rfl, rfl⟩
  · rw [← hu]
  · simp [results, hr]

section
variable {P : Program} {C : Ctx} {R : Type}
/-- A function that defers, first of all, what recovers. -/
def codeD (P : Program) (sp : Specs) (n : Nat) (A : Code) (mk : Oper) (ft : Tmp) (g : FuncId) (rest : Code) (an : An) (st : St) (K : Ex → St → Option R) : Option R :=
  codeK P sp n A .o st fun e st' => match e with
    | .norm => stepK P sp n st' mk fun st2 => match opd st2 (.tmp ft) with
      | some ⟨.fn g' _ _, _⟩ => if g' = g then codeK P sp n rest an st2 K else none
      | _ => none
    | _ => none
theorem sound_funD {sp : Specs} (hsp : ∀ g s, sp g = some s → SoundX P C g s) {f : FuncId} {fn : Func} (hf : P.funcs[f]? = some fn) (hn : (fn.name == "runtime.NumGoroutine") = false)
    {i : Nat} {A rest : Code} {mk df : Oper} {ft : Tmp} {g : FuncId} (hbody : fn.body = some (.seq A (.seq (.region i #[mk, df] false) rest))) (hdf : df.op = .defer ⟨.value (.tmp ft), #[], #[]⟩) (hdg : df.guard = none) (hdd : df.dst = none) (hmg : mk.guard = none)
    (hno : ∀ args w, CallsD P g args .returning w fun e u w' => e = .returned (.tuple #[]) ∧ u = .returning ∧ w' = w) (hent : ∀ args w, (callFunc g args).run P w = .ok (.enter g args) w)
    (an : An) (s : Sp) (hp : plain s.ps = true) (hr : plain s.rs = true) (hF : ∀ n x, codeD P sp n A mk ft g rest an (start s.ps x fn.ntmps) (kFin P s.rs fn) = s.F n x) : Sound P C f s := by
  refine ⟨fun args w => ?_, fun n x r h m β τ w vs hi hG hv => ?_⟩
  · unfold callFunc
    simp only [Sem.run_bind, run_program, Result.andThen_ok, hf, hn, hbody, Bool.false_eq_true, if_false, Option.isNone_some]
    rfl
  · rw [← hF] at h
    refine calls_of_wp_defers hf hbody ?_
    have hv' : vals ⟨m, fun _ => none, fun _ => none⟩ s.ps x vs := vals_plain (E := ⟨m, β, τ⟩) (E' := ⟨m, fun _ => none, fun _ => none⟩) rfl _ _ _ hp hv
    obtain ⟨hlen, hslots⟩ := start_ok _ _ _ hv'
    have hg : GR C (.of m) w ⟨m, fun _ => none, fun _ => none⟩ (start s.ps x fn.ntmps) (vs.toArray ++ Array.replicate (fn.ntmps - vs.toArray.size) undef) w := by
      refine ⟨⟨?_, fun i q _ hq => ?_, fun i tv ht => ?_, fun i e t xs ht => ?_, fun _ _ _ hb => (nomatch hb), hi⟩, .refl _ _, fun _ _ hb => (nomatch hb), fun _ _ hb => (nomatch hb), fun _ _ => ⟨rfl, rfl⟩, hG, .none_ rfl⟩
      · simp [start, hlen]
      · have hq' : (start.go s.ps x ++ List.replicate (fn.ntmps - (start.go s.ps x).length) Slot.undef)[i]? = some q := hq
        by_cases hlt : i < vs.length
        · rw [List.getElem?_append_left (by omega)] at hq'
          have := hslots i q hq'
          rw [Array.getD_eq_getD_getElem?, Array.getElem?_append_left (by simpa using hlt)]
          rw [List.getD_eq_getElem?_getD] at this
          simpa using this
        · rw [List.getElem?_append_right (by omega)] at hq'
          have hq2 := List.getElem?_replicate .. ▸ hq'
          split at hq2
          · obtain rfl := Option.some.inj hq2
            show _ = undef
            rw [Array.getD_eq_getD_getElem?, Array.getElem?_append_right (by simpa using hlt)]
            rw [Array.getElem?_replicate]
            split <;> rfl
          · cases hq2
      · simp [start] at ht
      · simp [start] at ht
    unfold codeD at h
    refine wp_seq (codeK_ok (m0 := .of m) (w0 := w) (r := r) (ds := []) hsp A .o _ _ _ ⟨_, []⟩ w _ rfl h hg rfl fun e st1 E1 a1 w1 hk hg1 hd1 => ?_)
    cases e with
    | exit id => cases hk
    | ret => cases hk
    | pan T k q => cases hk
    | norm =>
      obtain ⟨st2, hk2, hok⟩ := stepK_ok hsp hk
      refine wp_seq (wp_region ?_)
      show wpOps P _ _ [0, 1] a1 w1
      have q1 : (#[mk, df] : Array Oper)[0]? = some mk := rfl
      have q2 : (#[mk, df] : Array Oper)[1]? = some df := rfl
      simp only [wpOps, q1, q2, Region.wanted, hmg, hdg, if_true]
      refine .inl (hok (.of m) w E1 a1 w1 _ _ hg1 fun v E2 w2 hg2 => ?_)
      refine .inl ?_
      split at hk2
      · rename_i g' nf b0 u hop
        split at hk2
        · rename_i hgg
          subst hgg
          obtain ⟨bs, hbs, hfv⟩ := vrep_fn (opd_ok hg2.fr (fun _ _ => trivial) hop)
          unfold Oper.wp
          have hex : ∃ d : Deferred, (execOp (a1.put mk.dst v).eval df).run P w2 = .ok (.defer d) w2 ∧ ∃ cap dargs, d = ⟨.fn (.func g') cap, dargs⟩ := by
            unfold execOp
            simp only [hdf, resolve, hfv, Deferred.ofValue, Sem.run_bind, Sem.run_pure, Result.andThen_ok]
            exact ⟨_, rfl, _, _, rfl⟩
          obtain ⟨d, hex, cap, dargs, rfl⟩ := hex
          rw [hex, Oper.upon_defer]
          show Code.wp P rest _ _ _
          have hd2 : (a1.put mk.dst v).defers = [] := by rw [put_defers]; exact hd1
          refine codeK_ok (m0 := .of m) (w0 := w) (r := r) (ds := [⟨.fn (.func g') cap, dargs⟩]) hsp rest an st2 _ E2 _ w2 _ (An.lo_zero an) hk2 (by rw [hdd]; exact hg2) (by rw [put_defers, hd2]) fun e st' E' a' w' hk hg' hd' => ?_
          have fin : resT P st' s.rs fn.results.toList = some r → Leaves P fn a'.tmps (fun e w' => ∃ v m', e = .returned v ∧ Chg C m w m' w' ∧ Inv m' w' ∧ SlotRep ⟨m', β, τ⟩ (retSlot s.rs r) v) a'.defers .returning w' := fun hres => by
            obtain ⟨vs', hvs, hrun⟩ := resT_ok (nb := 0) hg'.fr (fun _ _ _ => Nat.zero_le _) _ _ _ hres
            have hvs' : vals ⟨allM 0 E' w', β, τ⟩ s.rs r vs' := vals_plain (E := E'.all 0 w') (E' := ⟨allM 0 E' w', β, τ⟩) rfl _ _ _ hr hvs
            rw [hd']
            have hiv : (invoke (.fn (.func g') cap) dargs).run P w' = .ok (.enter g' (dargs ++ cap)) w' := hent _ _
            refine leaves_cons (by simp) hiv ((hno _ w').mono ?_)
            rintro e u w'' ⟨rfl, rfl, rfl⟩
            show ∃ v, _ ∧ _
            refine ⟨_, ?_, ⟨_, allM 0 E' w'', rfl, ⟨hg'.chg.os, hg'.chg.tape, hg'.chg.output, hg'.chg.drawn, hg'.chg.size, hg'.chg.heap, fun b hb _ => ?_, fun b j v q => allM_le hg'.fr.inv b j v (hg'.chg.sub b j v q)⟩, allM_inv hg'.fr.inv, vals_ret _ _ _ hvs'⟩⟩
            rotate_left
            · rw [show m b = _ from (hg'.chg.mem b hb id).symm]
              funext j
              unfold allM
              rw [if_neg (fun ⟨i, _, hi⟩ => by rcases hg'.own i b hi with q | q; omega; exact q)]
            have hres' : results fn a'.tmps = (do
              let vs ← fn.results.mapM (resV a'.tmps)
              pure (if h : vs.size = 1 then vs[0] else .tuple vs)) := rfl
            rw [hres', Sem.run_bind, Array.mapM_eq_mapM_toList, Sem.run_map, hrun]
            rfl
          cases e with
          | norm => exact fin hk
          | exit id => cases hk
          | ret => exact fin hk
          | pan T k q => cases hk
        · cases hk2
      · cases hk2
end
end Go.Proofs.YtedenojeljjnaaaGreatDoorPi

namespace Go.Proofs.YtedenojeljjnaaaGreatDoorPi
open Go

/-! strings.Builder -/
theorem apps_run {P : Program} {w : World} {t u ty e : TypeId} {i : TypeInfo} (ht : P.underlying t = some (.slice e)) (hu : P.underlying u = some .string) (hi : P.info? e = some i) (hz : i.zero = some (.int .u8 0)) (hsize : i.size = 1) (hby : i.bytes = 1)
    {v : Value} {n : Nat} {xs : List Value} (hown : w.ownsRow 0 e 1 v n xs) (s : ByteArray) (hb : n + s.size ≤ 140737488355328) :
    ∃ v' w', (Builtin.append_ #[t, u] ty #[v, .string s]).run P w = .ok v' w' ∧ w'.ownsRow 0 e 1 v' (n + s.size) (xs ++ Lib.strCells s) ∧ w.grownBy w' v.ownBlock ∧ w.drawn ≤ w'.drawn ∧ (v'.ownBlock = v.ownBlock ∨ v'.ownBlock = some w.heap.size) := by
  have h63 : n + s.size ≤ maxLen := by unfold maxLen; omega
  obtain ⟨v', w', hrun, ho, hg, _⟩ := Lib.run_append_own_string (P := P) w 0 t u ty e i ht hu hi hz hsize hby v n xs hown s h63 hb (Nat.zero_le _)
  refine ⟨v', w', hrun, ho, hg, ?_⟩
  have hxl : xs.length = n := by simpa using hown.1
  have same : ∀ V W, (Builtin.append_ #[t, u] ty #[v, .string s]).run P w = .ok V W → w.drawn ≤ W.drawn → (V.ownBlock = v.ownBlock ∨ V.ownBlock = some w.heap.size) → w.drawn ≤ w'.drawn ∧ (v'.ownBlock = v.ownBlock ∨ v'.ownBlock = some w.heap.size) := fun V W h2 h3 h4 => by
    rw [hrun] at h2
    injection h2 with a1 a2
    subst a1 a2
    exact ⟨h3, h4⟩
  rcases hown.2 with ⟨rfl, rfl⟩ | ⟨g, cap, cur, rfl, hbg, hgg, hnc, hcm, hcs, htake⟩
  · by_cases hm : s.size = 0
    · have hn : Lib.strCells s = [] := List.eq_nil_of_length_eq_zero (by rw [Lib.strCells_length]; exact hm)
      have hf := Lib.run_firstCells_string (P := P) w 1 s
      rw [hm] at hf
      refine same (.slice none 0 0) w ?_ (Nat.le_refl _) (.inl rfl)
      simp [Builtin.append_, run_underlying ht, run_underlying hu, sizeOf, typeInfo, hi, hsize, Builtin.lenOf, hm, hf]
    · have hr := run_append_nil_string (P := P) w t u ty e i (.int .u8 0) ht hu hi hz s (by omega) (by omega) (by rw [hby]; omega)
      exact same _ _ hr (Nat.le_succ _) (.inr rfl)
  · by_cases hroom : n + s.size ≤ cap
    · have hcs' : cur.size = cap := by simpa using hcs
      have hr := Lib.run_append_room_string (P := P) w t u ty e i ht hu hi hsize g n cap cur hgg s hroom (by omega)
      exact same _ _ hr (Nat.le_refl _) (.inl rfl)
    · have holds : ∀ j u, xs[j]? = some u → w.cell? ((⟨g, 0, none⟩ : Addr).add j) = some u := hown.cells (g := g) rfl
      have hr := Lib.run_append_grow_string (P := P) w t u ty e i (.int .u8 0) ht hu hi hz ⟨g, 0, none⟩ n cap xs (by rw [hsize]; simpa using hxl) holds s (by omega) (by omega) (by rw [hby]; exact growslice_fits (by omega) (by omega))
      exact same _ _ hr (Nat.le_succ _) (.inr rfl)

theorem wpList_apps {P : Program} {w : World} {ops : Array Oper} {rest : List Oper} {o : Oper} {a : Act} {Q : Exit → Act → World → Prop} (hgd : o.guard = none) (sl x : Operand) (t u : TypeId)
    (ho : o.op = .call { callee := .builtin .append, args := #[sl, x], argTypes := #[t, u] }) (e : TypeId) (i : TypeInfo) (ht : P.underlying t = some (.slice e)) (hu : P.underlying u = some .string) (hi : P.info? e = some i) (hz : i.zero = some (.int .u8 0))
    (hsize : i.size = 1) (hby : i.bytes = 1) (v : Value) (n : Nat) (xs : List Value) (hs : a.eval sl = v) (hown : w.ownsRow 0 e 1 v n xs) (s : ByteArray) (hx : a.eval x = .string s) (hbytes : n + s.size ≤ 140737488355328)
    (h : ∀ v' w', w'.ownsRow 0 e 1 v' (n + s.size) (xs ++ Lib.strCells s) → w.grownBy w' v.ownBlock → w.drawn ≤ w'.drawn → (v'.ownBlock = v.ownBlock ∨ v'.ownBlock = some w.heap.size) → wpList P ops Q rest (a.put o.dst v') w') : wpList P ops Q (o :: rest) a w := by
  refine wpList_plain hgd fun K hK => ?_
  obtain ⟨v', w', hr, h2, h3, h4, h5⟩ := apps_run (P := P) (w := w) (ty := o.type) ht hu hi hz hsize hby hown s hbytes
  unfold Oper.wp execOp
  simp only [ho, resolve, invoke, builtin, Sem.run_bind, Sem.run_pure, Result.andThen_ok, List.map_toArray, List.map_cons, List.map_nil, hs, hx, hr]
  exact hK _ _ (h v' w' h2 h3 h4 h5)

/-- What else is as it was. -/
structure Aside (b : Nat) (v : Value) (w w' : World) : Prop where
  os : w'.os = w.os
  tape : w'.tape = w.tape
  output : w'.output = w.output
  drawn : w.drawn ≤ w'.drawn
  size : w.heap.size ≤ w'.heap.size
  heap : ∀ k, k < w.heap.size → k ≠ b → v.ownBlock ≠ some k → w'.heap[k]? = w.heap[k]?
/-- A builder with its bytes. -/
structure BAt (T e : TypeId) (b : Nat) (p v : Value) (bs : List Value) (w : World) : Prop where
  at_ : w.heap[b]? = some (.cells #[p, v] T (0, 0))
  own : w.ownsRow 0 e 1 v bs.length bs
  ne : v.ownBlock ≠ some b
def WriteC (P : Program) (f : FuncId) (T e : TypeId) : Prop :=
  ∀ (b : Nat) (p : Option Addr) (v : Value) (bs : List Value) (s : ByteArray) (w : World), BAt T e b (.pointer p) v bs w → (p = none ∨ p = some ⟨b, 0, none⟩) → bs.length + s.size ≤ 140737488355328 →
    Calls P f #[.pointer (some ⟨b, 0, none⟩), .string s] w fun ex w' => ex = .returned (.tuple #[.int .i64 s.size, .nilIface]) ∧ ∃ v', BAt T e b (.pointer (some ⟨b, 0, none⟩)) v' (bs ++ Lib.strCells s) w' ∧ (v'.ownBlock = v.ownBlock ∨ ∃ g, v'.ownBlock = some g ∧ w.heap.size ≤ g) ∧ Aside b v w w'
def StringC (P : Program) (f : FuncId) (T e : TypeId) : Prop :=
  ∀ (b : Nat) (p : Option Addr) (v : Value) (l : List UInt8) (w : World), BAt T e b (.pointer p) v (Lib.byteCells l) w →
    Calls P f #[.pointer (some ⟨b, 0, none⟩)] w fun ex w' => ex = .returned (.string ⟨l.toArray⟩) ∧ Aside b v w w'

def wsM (T e : TypeId) : SpM where
  ks := [some e, none]
  ct := .pair (.list (.int .u8)) (.pair (.bld T 1 0) .unit)
  ps := .pair (.ptr 1 0 (.bld T 1 0)) (.pair .str .unit)
  rs := .pair (.int .i64) (.pair .nif .unit)
  F := fun _ c y => bif decide (c.1.length + y.2.1.size ≤ 140737488355328) then some ((c.1 ++ bytesOf y.2.1, c.2), ((y.2.1.size : Int), (), ())) else none
def isByte (n : Int) : Bool := decide (0 ≤ n ∧ n < 256)
def stM (T e : TypeId) : SpM where
  ks := [some e, none]
  ct := .pair (.list (.int .u8)) (.pair (.bld T 1 0) .unit)
  ps := .pair (.ptr 1 0 (.bld T 1 0)) .unit
  rs := .pair .str .unit
  F := fun _ c _ => bif c.1.all isByte then some (c, (ofBytes c.1, ())) else none
  dead := true

theorem reps_bytes {E : Env} : ∀ (xs : List Int) (l : List Value), reps E (.int .u8) xs l → l = xs.map (.int .u8)
  | [], l, h => h
  | _ :: xs, l, ⟨c1, c2, e, r1, r2⟩ => by rw [e, show c1 = _ from r1, reps_bytes xs c2 r2]; rfl
theorem bytes_reps {E : Env} : ∀ (xs : List Int), reps E (.int .u8) xs (xs.map (.int .u8))
  | [] => rfl
  | _ :: xs => ⟨[_], xs.map (.int .u8), rfl, rfl, bytes_reps xs⟩
theorem strCells_bytes (s : ByteArray) : Lib.strCells s = (bytesOf s).map (.int .u8) := by
  unfold Lib.strCells bytesOf
  rw [List.map_map]; rfl
theorem byteCells_of : ∀ (xs : List Int), xs.all isByte = true → xs.map (Value.int .u8) = Lib.byteCells (xs.map fun n => UInt8.ofNat n.toNat)
  | [], _ => rfl
  | x :: xs, h => by
    simp only [List.all_cons, Bool.and_eq_true] at h
    have hx : 0 ≤ x ∧ x < 256 := by simpa [isByte] using h.1
    have : ((UInt8.ofNat x.toNat).toNat : Int) = x := by
      rw [UInt8.toNat_ofNat']; omega
    have ih := byteCells_of xs h.2
    simp only [List.map_cons, Lib.byteCells] at ih ⊢
    rw [ih, this]

/-- What is known of a builder that is handed over. -/
theorem bld_in {E : Env} {w : World} {T e : TypeId} {xs : List Int} {c : Unit} {u : Unit} (hf : FR (fun _ => True) E ⟨[], boxesOf [some e, none] (.pair (.list (.int .u8)) (.pair (.bld T 1 0) .unit)) (xs, c, u)⟩ #[] w) :
    ∃ b p v, E.β 1 = some b ∧ E.β 0 = v.ownBlock ∧ E.τ 0 = some v ∧ BAt T e b (.pointer p) v (xs.map (.int .u8)) w ∧ (p = none ∨ p = some ⟨b, 0, none⟩) ∧ (∀ j, E.m b j = none) ∧ ∀ g j, v.ownBlock = some g → E.m g j = none := by
  obtain ⟨v, l, hτ, ho, hr, hβ, hm⟩ := hf.arrs 0 e (.int .u8) xs rfl
  obtain ⟨b, cs, e', hb, hh, hr2, hm2⟩ := hf.boxes 1 ⟨.bld T 1 0, c⟩ rfl
  obtain ⟨p, A, n, cap, rfl, hτ2, hp⟩ := hr2
  obtain rfl : v = .slice A n cap := Option.some.inj (hτ.symm.trans hτ2)
  obtain rfl := reps_bytes xs l hr
  refine ⟨b, p, _, hb, hβ, hτ, ⟨hh, by rw [List.length_map]; exact ho, fun q => ?_⟩, ?_, hm2, hm⟩
  · have := hf.inj 0 1 b (hβ.trans q) hb
    omega
  · rcases hp with hp | ⟨b', hb', hp⟩
    · exact .inl hp
    · obtain rfl : b' = b := Option.some.inj (hb'.symm.trans hb)
      exact .inr hp

theorem ws_sound {P : Program} {C : Ctx} {f : FuncId} {T e : TypeId} (hent : ∀ (args : Array Value) (w : World), (callFunc f args).run P w = .ok (.enter f args) w) (h : WriteC P f T e) : SoundM P C f (wsM T e) := by
  refine ⟨hent, fun n c y c' r hF E w vs hf htop hlt hG hv => ?_⟩
  obtain ⟨xs, c1, c2⟩ := c
  obtain ⟨_, s, _⟩ := y
  rcases bif_some hF with ⟨hle, hF⟩ | ⟨_, hF⟩
  rotate_left
  · cases hF
  cases hF
  have hle' : xs.length + s.size ≤ 140737488355328 := by simpa using hle
  obtain ⟨b, p, v, hb1, hb0, hτ, hB, hp, hmb, hmv⟩ := bld_in hf
  obtain ⟨v1, vs1, rfl, hv1, v2, vs2, rfl, hv2, hvs⟩ := hv
  obtain rfl : vs2 = [] := hvs
  obtain ⟨b', hb', rfl⟩ := vrep_ptr hv1
  obtain rfl : b' = b := Option.some.inj (hb'.symm.trans hb1)
  obtain rfl := vrep_str hv2
  have hlt1 : b' < w.heap.size := hlt 1 b' hb1
  refine (h b' p v _ s w hB hp (by simpa using hle')).mono ?_
  rintro ex w' ⟨rfl, v', hB', hv', ha⟩
  let E' : Env := ⟨E.m, fun i => if i = 0 then v'.ownBlock else E.β i, fun i => if i = 0 then some v' else E.τ i⟩
  have hX : ∀ k, (¬ ∃ i, E.β i = some k) → k ≠ b' ∧ v.ownBlock ≠ some k := fun k hk => ⟨fun q => hk ⟨1, by rw [q]; exact hb1⟩, fun q => hk ⟨0, hb0.trans q⟩⟩
  have hchg : ChgX (fun b => ∃ i, E.β i = some b) C E.m w E.m w' := ⟨ha.os, ha.tape, ha.output, fun _ => ha.drawn, ha.size, fun k hk hx => ha.heap k hk (hX k hx).1 (hX k hx).2, fun _ _ _ => rfl, fun _ _ _ q => q⟩
  have hhi : ∀ i b, E.β i = some b → i < 2 := fun i b hb => Nat.lt_of_not_le fun hle => by rw [(htop i hle).1] at hb; cases hb
  have hnm : ∀ i b j u, E.β i = some b → E.m b j = some u → False := fun i b j u hb hu => by
    have := hhi i b hb
    match i, hb with
    | 0, hb => rw [hmv b j (hb0.symm.trans hb)] at hu; cases hu
    | 1, hb => obtain rfl : b' = b := Option.some.inj (hb1.symm.trans hb); rw [hmb j] at hu; cases hu
    | _ + 2, _ => omega
  have hinv : Inv E.m w' := chg_inv hchg (fun b j u hu ⟨i, hi⟩ => hnm i b j u hi hu) hf.inv
  have hown : ∀ g, v'.ownBlock = some g → ((∃ j, E.β j = some g) ∨ w.heap.size ≤ g) ∧ g < w'.heap.size := fun g hg => by
    refine ⟨?_, (hB'.own.lt g hg).2⟩
    rcases hv' with q | ⟨g', q, hge⟩
    · exact .inl ⟨0, hb0.trans (q.symm.trans hg)⟩
    · obtain rfl : g = g' := Option.some.inj (hg.symm.trans q)
      exact .inr hge
  refine ⟨_, E', rfl, hchg, ⟨rfl, fun i sl _ hs => by simp at hs, fun i tv hi => ?_, fun i e2 t2 zs hi => ?_, fun i j k hi hj => ?_, hinv⟩, fun i k hi => ?_, fun i hi => ?_, [_, _], ⟨_, _, rfl, mkInt _ _ _, _, _, rfl, ⟨_, rfl, rfl⟩, rfl⟩, rfl⟩
  · match i, hi with
    | 0, hi => cases hi
    | 1, hi =>
      obtain rfl : _ = tv := by
        have hi2 : some (some (Bx.one ⟨.bld T 1 0, c1⟩)) = some (some (.one tv)) := hi
        simpa using hi2
      obtain ⟨A, n', cap, hvv⟩ : ∃ A n cap, v' = .slice A n cap := by
        rcases hB'.own.2 with ⟨hv, _⟩ | ⟨g, cap, cur, hv, _⟩
        · exact ⟨_, _, _, hv⟩
        · exact ⟨_, _, _, hv⟩
      refine ⟨b', [.pointer (some ⟨b', 0, none⟩), v'], 0, hb1, hB'.at_, ⟨some ⟨b', 0, none⟩, A, n', cap, by rw [hvv], by rw [← hvv]; rfl, .inr ⟨b', hb1, rfl⟩⟩, hmb⟩
    | i + 2, hi => cases i <;> cases hi
  · match i, hi with
    | 0, hi =>
      have hi2 : some (some (Bx.arr e (.int .u8) (xs ++ bytesOf s))) = some (some (.arr e2 t2 zs)) := hi
      simp only [Option.some.injEq, Bx.arr.injEq] at hi2
      obtain ⟨rfl, rfl, hz⟩ := hi2
      obtain rfl := eq_of_heq hz
      refine ⟨v', _, rfl, ?_, bytes_reps _, rfl, fun g j hg => ?_⟩
      · have := hB'.own
        rw [strCells_bytes, ← List.map_append, List.length_map] at this
        exact this
      · show E.m g j = none
        cases hu : E.m g j with
        | none => rfl
        | some u =>
          rcases (hown g hg).1 with ⟨i, hi⟩ | hge
          · exact (hnm i g j u hi hu).elim
          · have := cell_lt (hf.inv g j u hu); omega
    | 1, hi => cases hi
    | i + 2, hi => cases i <;> cases hi
  · have key : ∀ j, j ≠ 0 → E.β j = some k → v'.ownBlock = some k → False := fun j hj0 hjk hk => by
      rcases hv' with q | ⟨g', q, hge⟩
      · exact hj0 (hf.inj j 0 k hjk (hb0.trans (q.symm.trans hk)))
      · obtain rfl : k = g' := Option.some.inj (hk.symm.trans q)
        have := hlt j k hjk; omega
    have hi' : (if i = 0 then v'.ownBlock else E.β i) = some k := hi
    have hj' : (if j = 0 then v'.ownBlock else E.β j) = some k := hj
    by_cases i0 : i = 0 <;> by_cases j0 : j = 0
    · omega
    · rw [if_pos i0] at hi'; rw [if_neg j0] at hj'; exact (key j j0 hj' hi').elim
    · rw [if_neg i0] at hi'; rw [if_pos j0] at hj'; exact (key i i0 hi' hj').elim
    · rw [if_neg i0] at hi'; rw [if_neg j0] at hj'; exact hf.inj i j k hi' hj'
  · have hi' : (if i = 0 then v'.ownBlock else E.β i) = some k := hi
    by_cases i0 : i = 0
    · rw [if_pos i0] at hi'; exact hown k hi'
    · rw [if_neg i0] at hi'; exact ⟨.inl ⟨i, hi'⟩, Nat.lt_of_lt_of_le (hlt i k hi') ha.size⟩
  · match i, hi with
    | 1, _ => rfl
    | 0, hi => simp [wsM] at hi
    | i + 2, hi => simp [wsM] at hi

theorem st_sound {P : Program} {C : Ctx} {f : FuncId} {T e : TypeId} (hent : ∀ (args : Array Value) (w : World), (callFunc f args).run P w = .ok (.enter f args) w) (h : StringC P f T e) : SoundM P C f (stM T e) := by
  refine ⟨hent, fun n c y c' r hF E w vs hf htop hlt hG hv => ?_⟩
  obtain ⟨xs, c1, c2⟩ := c
  rcases bif_some hF with ⟨hle, hF⟩ | ⟨_, hF⟩
  rotate_left
  · cases hF
  cases hF
  obtain ⟨b, p, v, hb1, hb0, hτ, hB, hp, hmb, hmv⟩ := bld_in hf
  obtain ⟨v1, vs1, rfl, hv1, hvs⟩ := hv
  obtain rfl : vs1 = [] := hvs
  obtain ⟨b', hb', rfl⟩ := vrep_ptr hv1
  obtain rfl : b' = b := Option.some.inj (hb'.symm.trans hb1)
  rw [byteCells_of xs hle] at hB
  refine (h b' p v _ w hB).mono ?_
  rintro ex w' ⟨rfl, ha⟩
  have hX : ∀ k, (¬ ∃ i, E.β i = some k) → k ≠ b' ∧ v.ownBlock ≠ some k := fun k hk => ⟨fun q => hk ⟨1, by rw [q]; exact hb1⟩, fun q => hk ⟨0, hb0.trans q⟩⟩
  have hchg : ChgX (fun b => ∃ i, E.β i = some b) C E.m w E.m w' := ⟨ha.os, ha.tape, ha.output, fun _ => ha.drawn, ha.size, fun k hk hx => ha.heap k hk (hX k hx).1 (hX k hx).2, fun _ _ _ => rfl, fun _ _ _ q => q⟩
  have hhi : ∀ i b, E.β i = some b → i < 2 := fun i b hb => Nat.lt_of_not_le fun hle => by rw [(htop i hle).1] at hb; cases hb
  have hnm : ∀ i b j u, E.β i = some b → E.m b j = some u → False := fun i b j u hb hu => by
    have := hhi i b hb
    match i, hb with
    | 0, hb => rw [hmv b j (hb0.symm.trans hb)] at hu; cases hu
    | 1, hb => obtain rfl : b' = b := Option.some.inj (hb1.symm.trans hb); rw [hmb j] at hu; cases hu
    | _ + 2, _ => omega
  have hinv : Inv E.m w' := chg_inv hchg (fun b j u hu ⟨i, hi⟩ => hnm i b j u hi hu) hf.inv
  exact ⟨_, E, rfl, hchg, ⟨rfl, fun i sl _ hs => by simp at hs, fun i tv hi => by simp [stM] at hi, fun i e2 t2 zs hi => by simp [stM] at hi, hf.inj, hinv⟩, fun i k hi => ⟨.inl ⟨i, hi⟩, Nat.lt_of_lt_of_le (hlt i k hi) ha.size⟩, fun _ _ => rfl, mkStr _ _⟩
end Go.Proofs.YtedenojeljjnaaaGreatDoorPi

namespace Go.Proofs.YtedenojeljjnaaaGreatDoorPi
open Go

def spCons (g : Nat) (s : SpX) (sp : Specs) : Specs := fun i => if i = g then some s else sp i
theorem spCons_ok {P : Program} {C : Ctx} {g0 : Nat} {s0 : SpX} {sp : Specs} (h0 : SoundX P C g0 s0) (hl : ∀ g s, sp g = some s → SoundX P C g s) : ∀ g s, spCons g0 s0 sp g = some s → SoundX P C g s := fun g s h => by
  unfold spCons at h
  split at h
  · rename_i e; subst e; obtain rfl := Option.some.inj h; exact h0
  · exact hl g s h
def spNil : Specs := fun _ => none
theorem spNil_ok {P : Program} {C : Ctx} : ∀ g s, spNil g = some s → SoundX P C g s := fun _ _ h => by cases h
theorem enter_of {P : Program} {f : FuncId} {fn : Func} (hf : P.funcs[f]? = some fn) (hn : (fn.name == "runtime.NumGoroutine") = false) (hb : fn.body.isNone = false) (args : Array Value) (w : World) : (callFunc f args).run P w = .ok (.enter f args) w := by
  unfold callFunc
  simp only [Sem.run_bind, run_program, Result.andThen_ok, hf, hn, hb, Bool.false_eq_true, if_false]
  rfl
theorem sound_one {P : Program} {C : Ctx} {f : FuncId} {s : SpM} (h : SoundM P C f s) : SoundX P C f (.m [s]) := fun x hx => by
  rw [List.mem_singleton] at hx; subst hx; exact h
theorem sound_two {P : Program} {C : Ctx} {f : FuncId} {s : SpM} {l : List SpM} (h : SoundM P C f s) (hl : SoundX P C f (.m l)) : SoundX P C f (.m (s :: l)) := fun x hx => by
  rcases List.mem_cons.1 hx with rfl | hx
  · exact h
  · exact hl x hx
def opAt : Code → Nat → Oper
  | .region _ ops _, i => ops.toList.getD i ⟨none, .move (.tmp 0), 0, "", #[], none⟩
  | _, _ => ⟨none, .move (.tmp 0), 0, "", #[], none⟩
def regId : Code → Nat
  | .region i _ _ => i
  | _ => 0
/-! functions that are run as they are -/
def intF (P : Program) (sp : Specs) (fn : Func) (ps rs : Ty) : Sp := ⟨ps, rs, fun n x => codeK P sp n (bodyOf fn) .o (start ps x fn.ntmps) (kFin P rs fn)⟩
theorem sound_int {P : Program} {C : Ctx} {sp : Specs} (hsp : ∀ g s, sp g = some s → SoundX P C g s) {f : FuncId} {fn : Func} (hf : P.funcs[f]? = some fn) (hn : (fn.name == "runtime.NumGoroutine") = false) (hb : fn.body.isNone = false) (ps rs : Ty)
    (hp : plain ps = true) (hr : plain rs = true) : SoundX P C f (.f (intF P sp fn ps rs)) := sound_of hsp hf hn hb .o (intF P sp fn ps rs) hp hr (fun _ _ => rfl)
def intM (P : Program) (sp : Specs) (fn : Func) (ks : List (Option TypeId)) (ct ps rs : Ty) : SpM := ⟨ks, ct, ps, rs, fun n c y => codeK P sp n (bodyOf fn) .o (startM ks ct c ps y fn.ntmps) (kFinM P ks ct rs fn), false⟩
theorem sound_intM {P : Program} {C : Ctx} {sp : Specs} (hsp : ∀ g s, sp g = some s → SoundX P C g s) {f : FuncId} {fn : Func} (hf : P.funcs[f]? = some fn) (hn : (fn.name == "runtime.NumGoroutine") = false) (hb : fn.body.isNone = false) (ks : List (Option TypeId)) (ct ps rs : Ty)
    (hwf : (intM P sp fn ks ct ps rs).wf = true) : SoundX P C f (.m [intM P sp fn ks ct ps rs]) := sound_one (sound_funM hsp hf hn hb .o (intM P sp fn ks ct ps rs) hwf rfl rfl (fun _ _ _ => rfl))
def intD (P : Program) (sp : Specs) (fn : Func) (ft : Tmp) (g : FuncId) (ps rs : Ty) : Sp := ⟨ps, rs, fun n x => codeD P sp n (cl (bodyOf fn)) (opAt (cl (cr (bodyOf fn))) 0) ft g (cr (cr (bodyOf fn))) .o (start ps x fn.ntmps) (kFin P rs fn)⟩
theorem sound_intD {P : Program} {C : Ctx} {sp : Specs} (hsp : ∀ g s, sp g = some s → SoundX P C g s) {f : FuncId} {fn : Func} (hf : P.funcs[f]? = some fn) (hn : (fn.name == "runtime.NumGoroutine") = false)
    {ft : Tmp} {g : FuncId} {i : Nat} {df : Oper} (hbody : fn.body = some (.seq (cl (bodyOf fn)) (.seq (.region i #[opAt (cl (cr (bodyOf fn))) 0, df] false) (cr (cr (bodyOf fn)))))) (hdf : df.op = .defer ⟨.value (.tmp ft), #[], #[]⟩) (hdg : df.guard = none) (hdd : df.dst = none) (hmg : (opAt (cl (cr (bodyOf fn))) 0).guard = none)
    (hno : ∀ args w, CallsD P g args .returning w fun e u w' => e = .returned (.tuple #[]) ∧ u = .returning ∧ w' = w) (hent : ∀ args w, (callFunc g args).run P w = .ok (.enter g args) w)
    (ps rs : Ty) (hp : plain ps = true) (hr : plain rs = true) : SoundX P C f (.f (intD P sp fn ft g ps rs)) :=
  sound_funD hsp hf hn hbody hdf hdg hdd hmg hno hent .o (intD P sp fn ft g ps rs) hp hr (fun _ _ => rfl)
/-- A function of one string, known at one string alone. -/
def ptS (rs : Ty) (a : ByteArray) (r : rs.den) : Sp := ⟨.pair .str .unit, rs, fun _ x => bif decide (x.1.data = a.data) then some r else none⟩
theorem pt_sound {P : Program} {C : Ctx} {f : FuncId} {rs : Ty} {F : Nat → (Ty.pair .str .unit).den → Option rs.den} {a : ByteArray} {r : rs.den} (h : Sound P C f ⟨.pair .str .unit, rs, F⟩) (hv : F 1000000 (a, ()) = some r) : SoundX P C f (.f (ptS rs a r)) := by
  refine ⟨h.enter, fun n x y hy m β τ w vs hi hG hvs => ?_⟩
  obtain ⟨s, u⟩ := x
  rcases bif_some hy with ⟨he, hy⟩ | ⟨_, hy⟩
  · have : s.data = a.data := by simpa using he
    have hs : s = a := by cases s; cases a; simp at this; rw [this]
    subst hs
    obtain rfl := Option.some.inj hy
    exact h.calls 1000000 (s, u) r hv m β τ w vs hi hG hvs
  · cases hy
theorem pt_intD {P : Program} {C : Ctx} {sp : Specs} {fn : Func} {ft : Tmp} {g f : FuncId} {rs : Ty} {a : ByteArray} {r : rs.den} (h : SoundX P C f (.f (intD P sp fn ft g (.pair .str .unit) rs))) (hv : (intD P sp fn ft g (.pair .str .unit) rs).F 1000000 (a, ()) = some r) : SoundX P C f (.f (ptS rs a r)) := pt_sound h hv
theorem pt_intF {P : Program} {C : Ctx} {sp : Specs} {fn : Func} {f : FuncId} {rs : Ty} {a : ByteArray} {r : rs.den} (h : SoundX P C f (.f (intF P sp fn (.pair .str .unit) rs))) (hv : (intF P sp fn (.pair .str .unit) rs).F 1000000 (a, ()) = some r) : SoundX P C f (.f (ptS rs a r)) := pt_sound h hv
theorem pt_unit {P : Program} {C : Ctx} {sp : Specs} {fn : Func} {f : FuncId} {rs : Ty} {r : rs.den} (h : SoundX P C f (.f (intF P sp fn .unit rs))) (hv : (intF P sp fn .unit rs).F 1000000 () = some r) : SoundX P C f (.f ⟨.unit, rs, fun _ _ => some r⟩) := by
  have h : Sound P C f (intF P sp fn .unit rs) := h
  refine ⟨h.enter, fun n x y hy => ?_⟩
  obtain rfl := Option.some.inj hy
  exact h.calls 1000000 () r hv
end Go.Proofs.YtedenojeljjnaaaGreatDoorPi
