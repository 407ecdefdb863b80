import Derived.Test.YtadamegddcadcaaGreatDoorDen
set_option linter.unusedVariables false
namespace Go.Proofs.YtadamegddcadcaaGreatDoorPi
open Go
set_option maxRecDepth 100000
set_option maxHeartbeats 1000000
set_option linter.unusedVariables false

/-! when rules fire, in plain words -/
/-- Has a rule a day in a year? -/
def dayOK (r : D_api_Rule) (y : Int) : Prop := (dayOf r.2.2.2.2.1 y r.2.2.2.1).2.1 = 0
def fireAt (r : D_api_Rule) (y : Int) : Int := (dayOf r.2.2.2.2.1 y r.2.2.2.1).1 * 86400 + r.2.2.2.2.2.1.1
def runs (r : D_api_Rule) (y : Int) : Prop := imax r.2.1 1 ≤ y ∧ y ≤ imin r.2.2.1 9999 ∧ dayOK r y
def mkF (r : D_api_Rule) (i y : Int) : D_EFire := (i, (y, (fireAt r y, ((0 : Int), ()))))
/-- A fire of one of the rules. -/
def FireIn (l : List D_api_Rule) (f : D_EFire) : Prop := ∃ r, 0 ≤ f.1 ∧ l[Int.toNat f.1]? = some r ∧ runs r f.2.1 ∧ f = mkF r f.1 f.2.1
def fLt (x y : D_EFire) : Prop := x.2.1 < y.2.1 ∨ x.2.1 = y.2.1 ∧ (x.2.2.1 < y.2.2.1 ∨ x.2.2.1 = y.2.2.1 ∧ x.1 < y.1)
theorem fLt_irr (x : D_EFire) : ¬ fLt x x := by unfold fLt; omega
theorem fLt_tr {x y z : D_EFire} (h : fLt x y) (k : fLt y z) : fLt x z := by unfold fLt at *; omega
theorem fLt_tot {l : List D_api_Rule} {f g : D_EFire} (hf : FireIn l f) (hg : FireIn l g) : f = g ∨ fLt f g ∨ fLt g f := by
  by_cases h1 : fLt f g
  · exact .inr (.inl h1)
  by_cases h2 : fLt g f
  · exact .inr (.inr h2)
  left
  obtain ⟨r, _, hr, _, ef⟩ := hf
  obtain ⟨q, _, hq, _, eg⟩ := hg
  have e1 : f.1 = g.1 ∧ f.2.1 = g.2.1 := by unfold fLt at h1 h2; omega
  rw [e1.1] at hr
  have : r = q := Option.some.inj (hr.symm.trans hq)
  rw [ef, eg, e1.1, e1.2, this]
theorem FireIn.years {l : List D_api_Rule} {f : D_EFire} (hf : FireIn l f) : 1 ≤ f.2.1 ∧ f.2.1 ≤ 9999 := by
  obtain ⟨r, _, _, ⟨h1, h2, _⟩, _⟩ := hf
  have m1 := imax_or r.2.1 1
  have m2 := imin_or r.2.2.1 9999
  omega
theorem FireIn.rule {l : List D_api_Rule} {f : D_EFire} (hf : FireIn l f) : ∃ r, r ∈ l ∧ l[Int.toNat f.1]? = some r ∧ r.2.1 ≤ f.2.1 ∧ f.2.1 ≤ r.2.2.1 := by
  obtain ⟨r, _, hr, ⟨h1, h2, _⟩, _⟩ := hf
  have m1 := imax_or r.2.1 1
  have m2 := imin_or r.2.2.1 9999
  exact ⟨r, List.mem_of_getElem? hr, hr, by omega, by omega⟩
theorem FireIn.lt {l : List D_api_Rule} {f : D_EFire} (hf : FireIn l f) : 0 ≤ f.1 ∧ f.1 < (l.length : Int) := by
  obtain ⟨r, h0, hr, _, _⟩ := hf
  have := (List.getElem?_eq_some_iff.1 hr).1
  omega
theorem fireIn_mk {l : List D_api_Rule} {r : D_api_Rule} {i y : Int} (h0 : 0 ≤ i) (hr : l[Int.toNat i]? = some r) (h : runs r y) : FireIn l (mkF r i y) := ⟨r, h0, hr, h, rfl⟩

/-! a rule that is silent for nine years never fires -/
theorem longN_leap {x y m : Int} (h : leapB x = true) : longN y m ≤ longN x m := by
  unfold longN; rw [if_pos h]
  split
  · omega
  · split
    · split <;> omega
    · omega
theorem leap_window (y : Int) : ∃ x, y - 7 ≤ x ∧ x ≤ y ∧ leapB x = true := by
  by_cases h : leapB (y - y % 4) = true
  · exact ⟨y - y % 4, by omega, by omega, h⟩
  · refine ⟨y - y % 4 - 4, by omega, by omega, ?_⟩
    have h1 : leapB (y - y % 4) = false := by simpa using h
    rw [leapB_not] at h1
    rw [leapB_iff]
    omega
theorem dayOK_leap {r : D_api_Rule} {x y : Int} (hx : leapB x = true) (h0 : -9999 ≤ x) (h1 : x ≤ 9999) (h : dayOK r y) : dayOK r x := by
  unfold dayOK dayOf at *
  cases hd : dayRB r.2.2.2.2.1
  · rw [hd] at h; exact absurd h (by show ¬ (1 : Int) = 0; omega)
  rw [hd] at h
  rw [if_pos rfl] at h ⊢
  by_cases hy : rightB y r.2.2.2.1 (dayAt r.2.2.2.2.1 y r.2.2.2.1) = true
  · have hm := rightB_month hy
    rw [rightB_iff] at hy
    have hr : rightB x r.2.2.2.1 (dayAt r.2.2.2.2.1 x r.2.2.2.1) = true := by
      rw [rightB_iff]
      have hp := longN_pos (y := x) hm.1 hm.2
      have hl := longN_leap (y := y) (m := r.2.2.2.1) hx
      unfold dayAt at *
      by_cases hk : r.2.2.2.2.1.1 = 1
      · rw [if_pos hk]; omega
      · rw [if_neg hk] at hy ⊢; omega
    rw [if_pos hr]
  · rw [if_neg hy] at h; exact absurd h (by show ¬ (6 : Int) = 0; omega)
theorem silent {r : D_api_Rule} {c : Int} (hlo : imax r.2.1 1 ≤ c) (hhi : c + 8 ≤ imin r.2.2.1 9999) (h : ∀ x, c ≤ x → x ≤ c + 8 → ¬ runs r x) (y : Int) : ¬ runs r y := by
  intro hy
  obtain ⟨x, hx0, hx1, hx⟩ := leap_window (c + 8)
  have m1 := imax_or r.2.1 1
  have m2 := imin_or r.2.2.1 9999
  exact h x (by omega) hx1 ⟨by omega, by omega, dayOK_leap hx (by omega) (by omega) hy.2.2⟩

/-! lists in order -/
theorem sorted_uniq {α : Type} {lt : α → α → Prop} (irr : ∀ x, ¬ lt x x) (tr : ∀ x y z, lt x y → lt y z → lt x z) : ∀ {a b : List α}, a.Pairwise lt → b.Pairwise lt → (∀ x, x ∈ a ↔ x ∈ b) → a = b
  | [], [], _, _, _ => rfl
  | [], y :: b, _, _, h => by have := (h y).2 List.mem_cons_self; cases this
  | x :: a, [], _, _, h => by have := (h x).1 List.mem_cons_self; cases this
  | x :: a, y :: b, ha, hb, h => by
    rw [List.pairwise_cons] at ha hb
    have hxy : x = y := by
      rcases List.mem_cons.1 ((h x).1 List.mem_cons_self) with e | e
      · exact e
      rcases List.mem_cons.1 ((h y).2 List.mem_cons_self) with e' | e'
      · exact e'.symm
      exact absurd (tr _ _ _ (hb.1 x e) (ha.1 y e')) (irr y)
    subst hxy
    congr 1
    refine sorted_uniq irr tr ha.2 hb.2 fun z => ⟨fun hz => ?_, fun hz => ?_⟩
    · rcases List.mem_cons.1 ((h z).1 (List.mem_cons_of_mem _ hz)) with e | e
      · subst e; exact absurd (ha.1 z hz) (irr z)
      · exact e
    · rcases List.mem_cons.1 ((h z).2 (List.mem_cons_of_mem _ hz)) with e | e
      · subst e; exact absurd (hb.1 z hz) (irr z)
      · exact e
/-- The fires of some years, in order. -/
def Fires (l : List D_api_Rule) (a b : Int) (fs : List D_EFire) : Prop := (∀ f, f ∈ fs ↔ FireIn l f ∧ a ≤ f.2.1 ∧ f.2.1 ≤ b) ∧ fs.Pairwise fLt
theorem Fires.uniq {l : List D_api_Rule} {a b : Int} {fs gs : List D_EFire} (h : Fires l a b fs) (k : Fires l a b gs) : fs = gs :=
  sorted_uniq fLt_irr (fun _ _ _ => fLt_tr) h.2 k.2 fun x => (h.1 x).trans (k.1 x).symm

/-! what the last fire ahead of something saves -/
def saveOf (l : List D_api_Rule) (f : D_EFire) : Int := match l[Int.toNat f.1]? with
  | some r => r.2.2.2.2.2.2.1
  | none => 0
theorem saveOf_eq {l : List D_api_Rule} {f : D_EFire} {r : D_api_Rule} (h : l[Int.toNat f.1]? = some r) : saveOf l f = r.2.2.2.2.2.2.1 := by unfold saveOf; rw [h]
def Prev (l : List D_api_Rule) (P : D_EFire → Prop) (s : Int) : Prop :=
  (s = 0 ∧ ∀ f, FireIn l f → ¬ P f) ∨ ∃ f, FireIn l f ∧ P f ∧ s = saveOf l f ∧ ∀ g, FireIn l g → P g → g = f ∨ fLt g f
theorem Prev.uniq {l : List D_api_Rule} {P : D_EFire → Prop} {s t : Int} (h : Prev l P s) (k : Prev l P t) : s = t := by
  rcases h with ⟨rfl, h⟩ | ⟨f, hf, hp, rfl, h⟩
  · rcases k with ⟨rfl, _⟩ | ⟨g, hg, hq, _, _⟩
    · rfl
    · exact absurd hq (h g hg)
  · rcases k with ⟨_, k⟩ | ⟨g, hg, hq, rfl, k⟩
    · exact absurd hp (k f hf)
    · have : f = g := by
        rcases h g hg hq with e | e
        · exact e.symm
        rcases k f hf hp with e' | e'
        · exact e'
        exact absurd (fLt_tr e e') (fLt_irr _)
      rw [this]
theorem Prev.congr {l : List D_api_Rule} {P Q : D_EFire → Prop} {s : Int} (e : ∀ f, FireIn l f → (P f ↔ Q f)) (h : Prev l P s) : Prev l Q s := by
  rcases h with ⟨rfl, h⟩ | ⟨f, hf, hp, rfl, h⟩
  · exact .inl ⟨rfl, fun f hf hq => h f hf ((e f hf).2 hq)⟩
  · exact .inr ⟨f, hf, (e f hf).1 hp, rfl, fun g hg hq => h g hg ((e g hg).2 hq)⟩
def AheadY (l : List D_api_Rule) (y s : Int) : Prop := Prev l (fun f => f.2.1 < y) s
def AheadF (l : List D_api_Rule) (f : D_EFire) (s : Int) : Prop := Prev l (fun g => fLt g f) s
theorem AheadY.max {l : List D_api_Rule} {y s : Int} : AheadY l (imax y 1) s ↔ AheadY l y s := by
  have m1 := imax_or y 1
  constructor <;> refine fun h => Prev.congr (fun f hf => ?_) h
  · have := hf.years; show f.2.1 < _ ↔ f.2.1 < _; omega
  · have := hf.years; show f.2.1 < _ ↔ f.2.1 < _; omega
theorem prev_bd {l : List D_api_Rule} (hl : RulesB l) {P : D_EFire → Prop} {s : Int} (h : Prev l P s) : -100000 ≤ s ∧ s ≤ 100000 := by
  rcases h with ⟨rfl, _⟩ | ⟨f, hf, _, rfl, _⟩
  · omega
  · obtain ⟨r, hm, hr, _⟩ := hf.rule
    rw [saveOf_eq hr]
    have := hl.2 r hm
    unfold RuleB at this; omega

/-! each fire with what is saved ahead of it -/
def setB (f : D_EFire) (s : Int) : D_EFire := (f.1, (f.2.1, (f.2.2.1, (s, f.2.2.2.2))))
def annot (l : List D_api_Rule) : Int → List D_EFire → List D_EFire
  | _, [] => []
  | s, f :: fs => setB f s :: annot l (saveOf l f) fs
theorem annot_length (l : List D_api_Rule) : ∀ (fs : List D_EFire) (s : Int), (annot l s fs).length = fs.length
  | [], _ => rfl
  | f :: fs, s => by simp [annot, annot_length l fs]
theorem annot_at {l : List D_api_Rule} : ∀ (fs : List D_EFire) (P : D_EFire → Prop) (s : Int), Prev l P s → fs.Pairwise fLt → (∀ f, f ∈ fs → FireIn l f) → (∀ g, FireIn l g → ∀ f, f ∈ fs → fLt g f → P g ∨ g ∈ fs) → (∀ g f, FireIn l g → f ∈ fs → P g → fLt g f) →
    ∀ (j : Nat) f, fs[j]? = some f → ∃ s', (annot l s fs)[j]? = some (setB f s') ∧ AheadF l f s'
  | [], _, _, _, _, _, _, _, j, f, h => by simp at h
  | f0 :: fs, P, s, hs, hp, hin, h1, h2, j, f, h => by
    rw [List.pairwise_cons] at hp
    cases j with
    | zero =>
      simp only [List.getElem?_cons_zero, Option.some.injEq] at h
      subst h
      refine ⟨s, rfl, hs.congr fun g hg => ⟨fun q => h2 g f0 hg List.mem_cons_self q, fun q => ?_⟩⟩
      rcases h1 g hg f0 List.mem_cons_self q with e | e
      · exact e
      rcases List.mem_cons.1 e with e | e
      · subst e; exact absurd q (fLt_irr _)
      · exact absurd (fLt_tr q (hp.1 g e)) (fLt_irr _)
    | succ j =>
      simp only [List.getElem?_cons_succ] at h
      have hf0 := hin f0 List.mem_cons_self
      obtain ⟨s', e, ha⟩ := annot_at (l := l) fs (fun g => P g ∨ g = f0) (saveOf l f0) (.inr ⟨f0, hf0, .inr rfl, rfl, fun g hg q => by
          rcases q with q | q
          · exact .inr (h2 g f0 hg List.mem_cons_self q)
          · exact .inl q⟩) hp.2 (fun f hf => hin f (List.mem_cons_of_mem _ hf)) (fun g hg f hf q => by
          rcases h1 g hg f (List.mem_cons_of_mem _ hf) q with e | e
          · exact .inl (.inl e)
          rcases List.mem_cons.1 e with e | e
          · exact .inl (.inr e)
          · exact .inr e) (fun g f hg hf q => by
          rcases q with q | q
          · exact h2 g f hg (List.mem_cons_of_mem _ hf) q
          · rw [q]; exact hp.1 f hf) j f h
      exact ⟨s', by simpa [annot] using e, ha⟩
theorem fires_annot {l : List D_api_Rule} {a b s : Int} {fs : List D_EFire} (hf : Fires l a b fs) (hs : AheadY l a s) {j : Nat} {f : D_EFire} (h : fs[j]? = some f) : ∃ s', (annot l s fs)[j]? = some (setB f s') ∧ AheadF l f s' := by
  refine annot_at fs (fun f => f.2.1 < a) s hs hf.2 (fun f h => ((hf.1 f).1 h).1) (fun g hg f hm q => ?_) (fun g f hg hm q => ?_) j f h
  · have := (hf.1 f).1 hm
    by_cases hga : g.2.1 < a
    · exact .inl hga
    · exact .inr ((hf.1 g).2 ⟨hg, by omega, by unfold fLt at q; omega⟩)
  · have := (hf.1 f).1 hm
    have q : g.2.1 < a := q
    unfold fLt; omega
end Go.Proofs.YtadamegddcadcaaGreatDoorPi

namespace Go.Proofs.YtadamegddcadcaaGreatDoorPi
open Go
set_option maxRecDepth 100000
set_option maxHeartbeats 1000000
set_option linter.unusedVariables false

/-! the program's expansion, in plain words -/
theorem pFire (n : Nat) {r : D_api_Rule} (hr : RuleB r) (i y : Int) : Ok (Elfire n (r, (i, (y, ())))) (fun v => (v.2.1 = true ∧ runs r y ∧ v.1 = mkF r i y) ∨ (v.2.1 = false ∧ ¬ runs r y)) := by
  unfold Elfire Elfire_px
  simp only [eFirst, eLast, Option.bind_some, dOf]
  refine Ok.dec (fun h => Ok.ret (.inr ⟨rfl, fun q => ?_⟩)) (fun h1 => Ok.dec (fun h => Ok.ret (.inr ⟨rfl, fun q => ?_⟩)) (fun h2 => ?_))
  · have := q.1; have h : y < imax r.2.1 1 := h; omega
  · have := q.2.1; have h : y > imin r.2.2.1 9999 := h; omega
  have h1 : ¬ y < imax r.2.1 1 := h1
  have h2 : ¬ y > imin r.2.2.1 9999 := h2
  have hb := dayOf_bd r.2.2.2.2.1 y r.2.2.2.1
  obtain ⟨b1, b2, _⟩ := hr
  rw [w64_id (x := (dayOf r.2.2.2.2.1 y r.2.2.2.1).1 * 86400) (by omega) (by omega), w64_id (by omega) (by omega)]
  by_cases hk : (dayOf r.2.2.2.2.1 y r.2.2.2.1).2.1 = 0
  · exact Ok.ret (.inl ⟨by show ((dayOf r.2.2.2.2.1 y r.2.2.2.1).2.1 == 0) = true; rw [hk]; rfl, ⟨by omega, by omega, hk⟩, rfl⟩)
  · exact Ok.ret (.inr ⟨by show ((dayOf r.2.2.2.2.1 y r.2.2.2.1).2.1 == 0) = false; simpa using hk, fun q => hk q.2.2⟩)
/-- The last fire of a rule ahead of a year. -/
def LastQ (r : D_api_Rule) (i y : Int) (v : D_EFire × (Bool × Unit)) : Prop :=
  (v.2.1 = true ∧ ∃ x, runs r x ∧ x < y ∧ v.1 = mkF r i x ∧ ∀ x', runs r x' → x' < y → x' ≤ x) ∨ (v.2.1 = false ∧ ∀ x, runs r x → ¬ x < y)
theorem pAhead {n : Nat} (hn : 1000000 ≤ n) {r : D_api_Rule} (hr : RuleB r) {i y : Int} (h0 : -30000 ≤ y) (h1 : y ≤ 30000) : Ok (Elahead n (r, (i, (y, ())))) (LastQ r i y) := by
  unfold Elahead Elahead_px
  simp only [eLast, Option.bind_some]
  have hr' := hr
  obtain ⟨_, _, _, _, a1, a2, a3, a4, _⟩ := hr'
  rw [w64_id (x := y - 1) (by omega) (by omega)]
  have m0 := imax_or r.2.1 1
  have m1 := imin_or r.2.2.1 9999
  have m2 := imin_or (y - 1) (imin r.2.2.1 9999)
  have top : ∀ x, runs r x → x < y → x ≤ imin (y - 1) (imin r.2.2.1 9999) := fun x hx hy => by have := hx.2.1; omega
  have topl : imin (y - 1) (imin r.2.2.1 9999) ≤ imin r.2.2.1 9999 := by omega
  have topy : imin (y - 1) (imin r.2.2.1 9999) < y := by omega
  generalize imin (y - 1) (imin r.2.2.1 9999) = f at *
  unfold Elahead_s1
  refine rounds_ok (fun z => ∃ k : Int, z = (i, (r, ()), f, f - k, r, ((0 : Int), ((0 : Int), ((0 : Int), ((0 : Int), ()))))) ∧ 0 ≤ k ∧ k ≤ 9 ∧ ∀ x, f - k < x → x ≤ f → ¬ runs r x) (fun z => (z.2.2.2.1 - (f - 9)).toNat) ?_ n _ ⟨0, by simp, by omega, by omega, fun x a b => by omega⟩ (by show (f - (f - 9)).toNat < n; omega)
  rintro rec z ⟨k, rfl, k0, k1, hk⟩ ih
  simp only [Elahead_s2, Elahead_p2, Elahead_s0, Elahead_p0, eFirst, Option.bind_some]
  refine Ok.dec (fun hge => Ok.dec (fun h => ?_) (fun h => Ok.ret (.inr ⟨rfl, fun x hx hy => ?_⟩))) (fun hge => Ok.ret (.inr ⟨rfl, fun x hx hy => ?_⟩))
  · rw [w64_id (by omega) (by omega)] at h
    refine Ok.bind (pFire n hr i (f - k)) fun v hv => ?_
    rcases hv with ⟨hb, hrun, he⟩ | ⟨hb, hno⟩
    · rw [hb]
      refine Ok.ret (.inl ⟨rfl, f - k, hrun, by omega, he, fun x' hx' hy' => ?_⟩)
      have t1 := top x' hx' hy'
      by_cases h2 : x' ≤ f - k
      · exact h2
      · exact absurd hx' (hk x' (by omega) t1)
    · rw [hb, cond_false]
      rw [w64_id (by omega) (by omega)]
      refine ih _ ⟨k + 1, by rw [show f - k - 1 = f - (k + 1) by omega], by omega, by omega, fun x a b => ?_⟩ (by show (f - k - 1 - (f - 9)).toNat < (f - k - (f - 9)).toNat; omega)
      by_cases h2 : x = f - k
      · rw [h2]; exact hno
      · exact hk x (by omega) b
  · rw [w64_id (by omega) (by omega)] at h
    have hge : f - k ≥ imax r.2.1 1 := hge
    exact silent (r := r) (c := f - 8) (by omega) (by omega) (fun x a b => hk x (by omega) (by omega)) x hx
  · have hge : ¬ f - k ≥ imax r.2.1 1 := hge
    have t1 := top x hx hy
    exact hk x (by have := hx.1; omega) t1 hx
theorem order_lt (x y : D_EFire) : fireCmp x y < 0 ↔ fLt x y := by
  have := fireCmp_lt x y
  unfold Go.Proofs.ltOf at this
  rw [decide_eq_decide] at this
  exact this
theorem pSaved {n : Nat} (hn : 1000000 ≤ n) {l : List D_api_Rule} (hl : RulesB l) {y : Int} (h0 : -30000 ≤ y) (h1 : y ≤ 30000) : Ok (Esaved n (l, (y, ()))) (fun v => AheadY l y v.1) := by
  unfold Esaved Esaved_px Esaved_s1
  obtain ⟨hlen, hall⟩ := hl
  let I : Int → Bool → Int → D_EFire → Prop := fun i b s f => (b = false ∧ s = 0 ∧ ∀ g, FireIn l g → g.1 < i → ¬ g.2.1 < y) ∨ (b = true ∧ FireIn l f ∧ f.1 < i ∧ f.2.1 < y ∧ s = saveOf l f ∧ ∀ g, FireIn l g → g.1 < i → g.2.1 < y → g = f ∨ fLt g f)
  refine rounds_ok (fun z => ∃ (s i : Int) (b : Bool) (f : D_EFire), z = (y, s, b, l, (l.length : Int), i, f) ∧ 0 ≤ i ∧ i ≤ (l.length : Int) ∧ I i b s f) (fun z => ((l.length : Int) - z.2.2.2.2.2.1).toNat) ?_ n _ ⟨0, 0, false, _, rfl, by omega, by omega, .inl ⟨rfl, rfl, fun g hg h => by have := hg.lt; omega⟩⟩ (by show ((l.length : Int) - 0).toNat < n; omega)
  rintro rec z ⟨s, i, b, f, rfl, i0, i1, hI⟩ ih
  simp only [Esaved_s2, Esaved_p2, Esaved_s3, Esaved_p3, Esaved_s4, Esaved_p4, Esaved_s0, Esaved_p0]
  refine Ok.dec (fun hi => ?_) (fun hi => Ok.ret ?_)
  · have next : ∀ s' b' f', I (i + 1) b' s' f' → Ok (rec (y, s', b', l, (l.length : Int), w64 (i + 1), f')) (fun v => AheadY l y v.1) := fun s' b' f' h => by
      rw [w64_id (by omega) (by omega)]
      exact ih _ ⟨s', i + 1, b', f', rfl, by omega, by omega, h⟩ (by show ((l.length : Int) - (i + 1)).toNat < ((l.length : Int) - i).toNat; omega)
    refine Ok.dec (fun _ => ?_) (fun h => absurd i0 h)
    refine Ok.bind (Ok.get i0 hi) fun e he => ?_
    refine Ok.bind (pAhead hn (hall e he.1) h0 h1) fun v hv => ?_
    -- the fires of this rule
    have mine : ∀ g, FireIn l g → g.1 = i → runs e g.2.1 ∧ g = mkF e i g.2.1 := fun g hg hgi => by
      obtain ⟨q, _, hq, hrun, hgq⟩ := hg
      rw [hgi] at hq
      have : q = e := Option.some.inj (hq.symm.trans he.2)
      subst this
      rw [hgi] at hgq
      exact ⟨hrun, hgq⟩
    rcases hv with ⟨hb, x, hrun, hxy, hvf, hmax⟩ | ⟨hb, hno⟩
    · rw [hb, cond_true]
      have hvin : FireIn l v.1 := by rw [hvf]; exact fireIn_mk i0 he.2 hrun
      have hv1 : v.1.1 = i := by rw [hvf]; rfl
      have hv2 : v.1.2.1 = x := by rw [hvf]; rfl
      have hsv : e.2.2.2.2.2.2.1 = saveOf l v.1 := (saveOf_eq (by rw [hv1]; exact he.2)).symm
      have top : ∀ g, FireIn l g → g.1 = i → g.2.1 < y → g = v.1 ∨ fLt g v.1 := fun g hg hgi hgy => by
        obtain ⟨hr, hge⟩ := mine g hg hgi
        have hle := hmax _ hr hgy
        by_cases hq : g.2.1 = x
        · left; rw [hge, hvf, hq]
        · right; unfold fLt; rw [hv2]; omega
      have take : (∀ g, FireIn l g → g.1 < i → g.2.1 < y → g = v.1 ∨ fLt g v.1) → Ok (rec (y, e.2.2.2.2.2.2.1, true, l, (l.length : Int), w64 (i + 1), v.1)) (fun v => AheadY l y v.1) := fun h =>
        next _ _ _ (.inr ⟨rfl, hvin, by omega, by omega, hsv, fun g hg hgi hgy => by
          by_cases hq : g.1 = i
          · exact top g hg hq hgy
          · exact h g hg (by omega) hgy⟩)
      rcases hI with ⟨rfl, rfl, hno⟩ | ⟨rfl, hf, hfi, hfy, rfl, hall'⟩
      · exact take fun g hg hgi hgy => absurd hgy (hno g hg hgi)
      · simp only [Bool.not_true, cond_false]
        rw [cOrder n (by omega), Option.bind_some]
        refine Ok.dec (fun hlt => take fun g hg hgi hgy => ?_) (fun hlt => next _ _ _ (.inr ⟨rfl, hf, by omega, hfy, rfl, fun g hg hgi hgy => ?_⟩))
        · have hlt : fLt f v.1 := (order_lt _ _).1 hlt
          rcases hall' g hg hgi hgy with e' | e'
          · rw [e']; exact .inr hlt
          · exact .inr (fLt_tr e' hlt)
        · have hlt : ¬ fLt f v.1 := fun q => hlt ((order_lt _ _).2 q)
          by_cases hq : g.1 = i
          · have h3 : fLt v.1 f := by
              rcases fLt_tot hf hvin with e' | e' | e'
              · rw [e'] at hfi; omega
              · exact absurd e' hlt
              · exact e'
            rcases top g hg hq hgy with e' | e'
            · rw [e']; exact .inr h3
            · exact .inr (fLt_tr e' h3)
          · exact hall' g hg (by omega) hgy
    · rw [hb, cond_false]
      refine next _ _ _ ?_
      have none_ : ∀ g, FireIn l g → g.1 = i → ¬ g.2.1 < y := fun g hg hgi => hno _ (mine g hg hgi).1
      rcases hI with ⟨rfl, rfl, hno'⟩ | ⟨rfl, hf, hfi, hfy, rfl, hall'⟩
      · exact .inl ⟨rfl, rfl, fun g hg hgi => by
          by_cases hq : g.1 = i
          · exact none_ g hg hq
          · exact hno' g hg (by omega)⟩
      · exact .inr ⟨rfl, hf, by omega, hfy, rfl, fun g hg hgi hgy => by
          by_cases hq : g.1 = i
          · exact absurd hgy (none_ g hg hq)
          · exact hall' g hg (by omega) hgy⟩
  · have hi : ¬ i < (l.length : Int) := hi
    rcases hI with ⟨_, rfl, hno⟩ | ⟨_, hf, hfi, hfy, rfl, hall'⟩
    · exact .inl ⟨rfl, fun g hg => hno g hg (by have := hg.lt; omega)⟩
    · exact .inr ⟨f, hf, hfy, rfl, fun g hg hgy => hall' g hg (by have := hg.lt; omega) hgy⟩
/-- What fires in some years, each fire with what was saved ahead of it. -/
def FromQ (l : List D_api_Rule) (a b : Int) (v : List D_EFire × Unit) : Prop := ∃ fs s, Fires l a b fs ∧ AheadY l a s ∧ v.1 = annot l s fs
theorem set_mid {α : Type} (A B : List α) (f x : α) : (A ++ f :: B).set A.length x = A ++ x :: B := by
  rw [List.set_append_right _ _ (Nat.le_refl _), Nat.sub_self]; rfl
theorem get_mid {α : Type} (A B : List α) (f : α) : (A ++ f :: B)[A.length]? = some f := by
  rw [List.getElem?_append_right (Nat.le_refl _), Nat.sub_self]; rfl
theorem pFrom {n : Nat} (hn : 1000000 ≤ n) {l : List D_api_Rule} (hl : RulesB l) {a b : Int} (h0 : -30000 ≤ a) (h1 : a ≤ 30000) (h2 : -30000 ≤ b) (h3 : b ≤ 30000) : Ok (EFrom n (l, (a, (b, ())))) (fun v => FromQ l a b v ∧ v.1.length < 1000000) := by
  unfold EFrom EFrom_px EFrom_s1
  have hl' := hl
  obtain ⟨hlen, hall⟩ := hl
  have m1 := imax_or a 1
  have m2 := imin_or b 9999
  simp only
  have hA : ∀ s, AheadY l (imax a 1) s ↔ AheadY l a s := fun s => AheadY.max
  have hF : ∀ fs, Fires l (imax a 1) (imin b 9999) fs → Fires l a b fs := fun fs h => ⟨fun f => (h.1 f).trans ⟨fun ⟨q, r, s⟩ => ⟨q, by omega, by omega⟩, fun ⟨q, r, s⟩ => ⟨q, by have := q.years; omega, by have := q.years; omega⟩⟩, h.2⟩
  generalize imax a 1 = lo at *
  generalize imin b 9999 = hi at *
  -- the last loop
  have last : ∀ (s0 : Int) (fs : List D_EFire), Fires l lo hi fs → AheadY l lo s0 → fs.length < 1000000 → Ok (rounds (fun r8 x' => EFrom_s8 n (EFrom_s5 n) r8 x') n (l, s0, (fs.length : Int), (0 : Int), fs)) (fun v => FromQ l a b v ∧ v.1.length < 1000000) := by
    intro s0 fs hf hs hfl
    refine rounds_ok (fun z => ∃ (s : Int) (A B : List D_EFire), z = (l, s, (fs.length : Int), (A.length : Int), A ++ B) ∧ A ++ annot l s B = annot l s0 fs ∧ A.length + B.length = fs.length ∧ ∀ f, f ∈ B → FireIn l f) (fun z => ((fs.length : Int) - z.2.2.2.1).toNat) ?_ n _ ⟨s0, [], fs, rfl, rfl, by simp, fun f h => ((hf.1 f).1 h).1⟩ (by show ((fs.length : Int) - 0).toNat < n; omega)
    rintro rec z ⟨s, A, B, rfl, hAB, hlen2, hB⟩ ih
    simp only [EFrom_s8, EFrom_p8, EFrom_s5, EFrom_p5, Int.toNat_natCast]
    have la : (A ++ B).length = fs.length := by rw [List.length_append]; exact hlen2
    cases B with
    | nil =>
      refine Ok.dec (fun hi => absurd hi ?_) (fun _ => Ok.ret ⟨⟨fs, s0, hF fs hf, (hA s0).1 hs, by simpa [annot] using hAB⟩, by show (A ++ ([] : List D_EFire)).length < 1000000; omega⟩)
      simp at hlen2; omega
    | cons f B =>
      have hf0 := hB f List.mem_cons_self
      obtain ⟨r, hrm, hr, _⟩ := hf0.rule
      have hAl : A.length < fs.length := by simp at hlen2; omega
      refine Ok.dec (fun hi => ?_) (fun h => absurd (show (A.length : Int) < (fs.length : Int) by omega) h)
      refine Ok.dec (fun hc => ?_) (fun hc => absurd ⟨by omega, by rw [la]; omega⟩ hc)
      rw [get_mid, Option.bind_some]
      refine Ok.dec (fun _ => ?_) (fun h => absurd hf0.lt.1 h)
      rw [hr, Option.bind_some]
      refine Ok.dec (fun hc => ?_) (fun hc => absurd ⟨by omega, by rw [la]; omega⟩ hc)
      rw [Option.bind_some, set_mid, w64_id (by omega) (by omega)]
      refine ih _ ⟨r.2.2.2.2.2.2.1, A ++ [setB f s], B, ?_, ?_, ?_, fun g hg => hB g (List.mem_cons_of_mem _ hg)⟩ (by show ((fs.length : Int) - (A.length + 1)).toNat < ((fs.length : Int) - A.length).toNat; omega)
      · rw [List.append_assoc, List.length_append]; rfl
      · rw [← hAB, ← saveOf_eq hr, List.append_assoc]; rfl
      · simp only [List.length_append, List.length_cons, List.length_nil] at hlen2 ⊢; omega
  -- behind the loops over rules and years
  have done : ∀ fs : List D_EFire, (∀ f, f ∈ fs ↔ FireIn l f ∧ lo ≤ f.2.1 ∧ f.2.1 ≤ hi) → fs.Nodup → fs.length < 1000000 → Ok (EFrom_s0 n (l, lo, fs)) (fun v => FromQ l a b v ∧ v.1.length < 1000000) := by
    intro fs hf hnd hfl
    simp only [EFrom_s0, EFrom_p0]
    rw [sortFire_eq n hfl, Option.bind_some]
    refine Ok.bind (pSaved hn hl' (by omega) (by omega)) fun v hv => ?_
    obtain ⟨hp, hso⟩ := sortL_spec fireCmp fireSWO fs
    refine last v.1 _ ⟨fun f => hp.mem_iff.trans (hf f), ?_⟩ hv (by rw [hp.length_eq]; exact hfl)
    refine List.Pairwise.imp_of_mem ?_ (hso.and (hp.symm.nodup hnd))
    rintro x y hx hy ⟨hlt, hne⟩
    have hx' := ((hf x).1 (hp.mem_iff.1 hx)).1
    have hy' := ((hf y).1 (hp.mem_iff.1 hy)).1
    rcases fLt_tot hx' hy' with e | e | e
    · exact absurd e hne
    · exact e
    · rw [fireCmp_lt, decide_eq_false_iff_not] at hlt
      exact absurd e hlt
  refine rounds_ok (fun z => ∃ (i : Int) (fs : List D_EFire), z = (l, lo, hi, l, (l.length : Int), i, fs) ∧ (∀ f, f ∈ fs ↔ FireIn l f ∧ (lo ≤ f.2.1 ∧ f.2.1 ≤ hi) ∧ f.1 < i) ∧ fs.Nodup ∧ (fs.length : Int) ≤ 30000 * i ∧ 0 ≤ i ∧ i ≤ (l.length : Int)) (fun z => ((l.length : Int) - z.2.2.2.2.2.1).toNat) ?_ n _ ⟨0, [], rfl, fun f => ⟨fun h => by (cases h), fun ⟨q, _, r⟩ => by have := q.lt; omega⟩, List.nodup_nil, by simp, by omega, by omega⟩ (by show ((l.length : Int) - 0).toNat < n; omega)
  rintro rec z ⟨i, fs, rfl, hf, hnd, hfl, i0, i1⟩ ih
  simp only [EFrom_s2, EFrom_p2]
  refine Ok.dec (fun hi' => ?_) (fun hi' => done fs (fun f => (hf f).trans ⟨fun ⟨q, r, _⟩ => ⟨q, r⟩, fun ⟨q, r⟩ => ⟨q, r, by have := q.lt; have hi' : ¬ i < (l.length : Int) := hi'; omega⟩⟩) hnd (by omega))
  refine Ok.dec (fun _ => ?_) (fun h => absurd i0 h)
  refine Ok.bind (Ok.get i0 hi') fun r hr => ?_
  have hrb := hall r hr.1
  rw [eFirst, Option.bind_some]
  have hrb' := hrb
  obtain ⟨_, _, _, _, a1, a2, a3, a4, _⟩ := hrb'
  have m3 := imax_or r.2.1 1
  have m4 := imax_or lo (imax r.2.1 1)
  have mine : ∀ g, FireIn l g → g.1 = i → runs r g.2.1 ∧ g = mkF r i g.2.1 := fun g hg hgi => by
    obtain ⟨q, _, hq, hrun, hgq⟩ := hg
    rw [hgi] at hq
    have : q = r := Option.some.inj (hq.symm.trans hr.2)
    subst this
    rw [hgi] at hgq
    exact ⟨hrun, hgq⟩
  have low : ∀ g, FireIn l g → g.1 = i → lo ≤ g.2.1 → imax lo (imax r.2.1 1) ≤ g.2.1 := fun g hg hgi hlo => by
    have := (mine g hg hgi).1.1; omega
  generalize imax lo (imax r.2.1 1) = y0 at *
  unfold EFrom_s4
  refine rounds_ok (fun z => ∃ (y : Int) (gs : List D_EFire), z = (l, lo, hi, i, y, l, (l.length : Int), i, gs, r, r) ∧ (∀ f, f ∈ gs ↔ FireIn l f ∧ (lo ≤ f.2.1 ∧ f.2.1 ≤ hi) ∧ (f.1 < i ∨ f.1 = i ∧ f.2.1 < y)) ∧ gs.Nodup ∧ (gs.length : Int) ≤ 30000 * i + (y - y0) ∧ y0 ≤ y ∧ (y ≤ y0 ∨ y ≤ 10000)) (fun z => (10000 - z.2.2.2.2.1).toNat) ?_ n _ ⟨y0, fs, rfl, fun f => (hf f).trans ⟨fun ⟨q, s, t⟩ => ⟨q, s, .inl t⟩, fun ⟨q, s, t⟩ => ⟨q, s, t.elim id fun t => by have := low f q t.1 s.1; omega⟩⟩, hnd, by omega, by omega, by omega⟩ (by show (10000 - y0).toNat < n; omega)
  rintro rec2 z ⟨y, gs, rfl, hg, hgn, hgl, hy0, hy1⟩ ih2
  simp only [EFrom_s7, EFrom_p7, EFrom_s9, EFrom_p9, eLast, Option.bind_some]
  have m5 := imin_or r.2.2.1 9999
  have m6 := imin_or hi (imin r.2.2.1 9999)
  refine Ok.dec (fun hy => ?_) (fun hy => ?_)
  · have hy9 : y ≤ 9999 := by omega
    refine Ok.bind (pFire n hrb i y) fun v hv => ?_
    have next : ∀ gs' : List D_EFire, (∀ f, f ∈ gs' ↔ FireIn l f ∧ (lo ≤ f.2.1 ∧ f.2.1 ≤ hi) ∧ (f.1 < i ∨ f.1 = i ∧ f.2.1 < y + 1)) → gs'.Nodup → (gs'.length : Int) ≤ 30000 * i + (y + 1 - y0) → Ok (rec2 (l, lo, hi, i, w64 (y + 1), l, (l.length : Int), i, gs', r, r)) (fun v => FromQ l a b v ∧ v.1.length < 1000000) := fun gs' h hn' h' => by
      rw [w64_id (by omega) (by omega)]
      exact ih2 _ ⟨y + 1, gs', rfl, h, hn', h', by omega, by omega⟩ (by show (10000 - (y + 1)).toNat < (10000 - y).toNat; omega)
    rcases hv with ⟨hb, hrun, hve⟩ | ⟨hb, hno⟩
    · rw [hb, cond_true]
      have hvin : FireIn l (mkF r i y) := fireIn_mk i0 hr.2 hrun
      rw [hve]
      refine Ok.dec (fun _ => next _ (fun f => ?_) ?_ ?_) (fun h => absurd ?_ h)
      · rw [List.mem_append, List.mem_singleton]
        constructor
        · rintro (h | h)
          · obtain ⟨q, s, t⟩ := (hg f).1 h
            exact ⟨q, s, by omega⟩
          · subst h
            exact ⟨hvin, ⟨by show lo ≤ y; omega, by show y ≤ hi; omega⟩, .inr ⟨rfl, by show y < y + 1; omega⟩⟩
        · rintro ⟨q, s, t⟩
          by_cases hq : f.1 = i ∧ f.2.1 = y
          · right
            rw [(mine f q hq.1).2, hq.2]
          · exact .inl ((hg f).2 ⟨q, s, by omega⟩)
      · rw [List.nodup_append]
        refine ⟨hgn, by simp, fun x hx z hz => ?_⟩
        rw [List.mem_singleton] at hz
        subst hz
        rintro rfl
        obtain ⟨_, _, t⟩ := (hg _).1 hx
        have e1 : (mkF r i y).1 = i := rfl
        have e2 : (mkF r i y).2.1 = y := rfl
        omega
      · simp only [List.length_append, List.length_cons, List.length_nil]; omega
      · simp only [List.length_cons, List.length_nil]; omega
    · rw [hb, cond_false]
      refine next gs (fun f => (hg f).trans ⟨fun ⟨q, s, t⟩ => ⟨q, s, by omega⟩, fun ⟨q, s, t⟩ => ⟨q, s, ?_⟩⟩) hgn (by omega)
      by_cases hq : f.1 = i ∧ f.2.1 = y
      · exact absurd (hq.2 ▸ (mine f q hq.1).1) hno
      · omega
  · have hy : ¬ y ≤ imin hi (imin r.2.2.1 9999) := hy
    simp only [EFrom_s3, EFrom_p3]
    rw [w64_id (by omega) (by omega)]
    refine ih _ ⟨i + 1, gs, rfl, fun f => (hg f).trans ⟨fun ⟨q, s, t⟩ => ⟨q, s, by omega⟩, fun ⟨q, s, t⟩ => ⟨q, s, ?_⟩⟩, hgn, by omega, by omega, by omega⟩ (by show ((l.length : Int) - (i + 1)).toNat < ((l.length : Int) - i).toNat; omega)
    by_cases hq : f.1 = i
    · have := (mine f q hq).1.2.1
      exact .inr ⟨hq, by omega⟩
    · omega
end Go.Proofs.YtadamegddcadcaaGreatDoorPi
