import Derived.Test.YtadamegddcadcaaGreatDoorExpR
import Derived.Test.YtadamegddcadcaaGreatDoorDen
import Derived.KernelRfl
import Derived.Test.YtadamegddcadcaaGreatDoorPiB
import Derived.DataShut
set_option linter.unusedVariables false
namespace Go.Proofs.YtadamegddcadcaaGreatDoorPi
open Go
set_option maxRecDepth 100000
set_option maxHeartbeats 1000000
set_option linter.unusedVariables false

/-! what rules save at an instant -/
def Cand (l : List D_api_Rule) (off t : Int) (f : D_EFire) : Prop := ∃ r s, l[Int.toNat f.1]? = some r ∧ AheadF l f s ∧ instOf r (setB f s) off ≤ t
def SavQ (l : List D_api_Rule) (off t hi : Int) (v : Int × (ByteArray × Unit)) : Prop :=
  (v.1 = 0 ∧ LetQ l v.2.1 ∧ ∀ f, FireIn l f → f.2.1 ≤ hi → ¬ Cand l off t f) ∨ ∃ f r, FireIn l f ∧ f.2.1 ≤ hi ∧ Cand l off t f ∧ l[Int.toNat f.1]? = some r ∧ v.1 = r.2.2.2.2.2.2.1 ∧ v.2.1 = r.2.2.2.2.2.2.2.1 ∧ ∀ g, FireIn l g → g.2.1 ≤ hi → Cand l off t g → g = f ∨ fLt g f
theorem SavQ.uniq {l : List D_api_Rule} {off t hi : Int} {v w : Int × (ByteArray × Unit)} (h : SavQ l off t hi v) (k : SavQ l off t hi w) : v = w := by
  obtain ⟨v1, v2, v3⟩ := v
  obtain ⟨w1, w2, w3⟩ := w
  rcases h with ⟨h1, h2, h3⟩ | ⟨f, r, hf, hfy, hc, hr, h1, h2, h3⟩
  · rcases k with ⟨k1, k2, _⟩ | ⟨g, q, hg, hgy, hcg, _⟩
    · have h1 : v1 = 0 := h1
      have k1 : w1 = 0 := k1
      have e : v2 = w2 := LetQ.uniq h2 k2
      rw [h1, k1, e]
    · exact absurd hcg (h3 g hg hgy)
  · rcases k with ⟨_, _, k3⟩ | ⟨g, q, hg, hgy, hcg, hq, k1, k2, k3⟩
    · exact absurd hc (k3 f hf hfy)
    · have : f = g := by
        rcases h3 g hg hgy hcg with e | e
        · exact e.symm
        rcases k3 f hf hfy hc with e' | e'
        · exact e'
        exact absurd (fLt_tr e e') (fLt_irr _)
      subst this
      obtain rfl : r = q := Option.some.inj (hr.symm.trans hq)
      have h1 : v1 = _ := h1
      have k1 : w1 = _ := k1
      have h2 : v2 = _ := h2
      have k2 : w2 = _ := k2
      rw [h1, k1, h2, k2]
/-- The fires of some years are looked through from behind. -/
theorem scan_at {l : List D_api_Rule} (hl : RulesB l) {a b s off t : Int} {fs : List D_EFire} (hf : Fires l a b fs) (hs : AheadY l a s) (ho : -100000 ≤ off ∧ off ≤ 100000) {i : Int} (i0 : 0 ≤ i) (i1 : i < ((annot l s fs).length : Int)) :
    ∃ f r e, fs[Int.toNat i]? = some f ∧ FireIn l f ∧ (a ≤ f.2.1 ∧ f.2.1 ≤ b) ∧ l[Int.toNat f.1]? = some r ∧ (annot l s fs)[Int.toNat i]? = some e ∧ e.1 = f.1 ∧ (∀ n, EInstant n (l, (e, (off, ()))) = some (instOf r e off, ()) ∧ A4Instant n (l, (e, (off, ()))) = some (instOf r e off, ())) ∧ (Cand l off t f ↔ instOf r e off ≤ t) := by
  rw [annot_length] at i1
  have hi : Int.toNat i < fs.length := by omega
  have hget : fs[Int.toNat i]? = some fs[Int.toNat i] := List.getElem?_eq_getElem hi
  generalize fs[Int.toNat i] = f at hget
  obtain ⟨s', he, ha⟩ := fires_annot hf hs hget
  have hm := (hf.1 f).1 (List.mem_of_getElem? hget)
  obtain ⟨r, _, hr, _⟩ := hm.1.rule
  have hsb := prev_bd hl ha
  refine ⟨f, r, setB f s', hget, hm.1, hm.2, hr, he, rfl, fun n => ⟨pInstant n hl hm.1 hr hsb ho, rInstant n hl hm.1 hr hsb ho⟩, ?_, fun h => ⟨r, s', hr, ha, h⟩⟩
  rintro ⟨r', s2, hr', ha', hle⟩
  obtain rfl : r' = r := Option.some.inj (hr'.symm.trans hr)
  rw [Prev.uniq ha ha']; exact hle
/-- Those behind a place are none; the one there is. -/
theorem scan_hit {l : List D_api_Rule} {a b off t hi to : Int} {fs : List D_EFire} (hf : Fires l a b fs) {i : Int} (i0 : 0 ≤ i) {f : D_EFire} (hget : fs[Int.toNat i]? = some f) (hab : to = b) (hto : ∀ g, FireIn l g → g.2.1 ≤ hi → to < g.2.1 → ¬ Cand l off t g) (hbh : ∀ (j : Nat) g, i < (j : Int) → fs[j]? = some g → ¬ Cand l off t g) :
    ∀ g, FireIn l g → g.2.1 ≤ hi → Cand l off t g → g = f ∨ fLt g f := by
  intro g hg hgy hc
  have hfm := (hf.1 f).1 (List.mem_of_getElem? hget)
  by_cases h1 : to < g.2.1
  · exact absurd hc (hto g hg hgy h1)
  by_cases h2 : g.2.1 < a
  · exact .inr (.inl (by omega))
  obtain ⟨j, hj⟩ := List.mem_iff_getElem?.1 ((hf.1 g).2 ⟨hg, by omega, by omega⟩)
  by_cases h3 : i < (j : Int)
  · exact absurd hc (hbh j g h3 hj)
  by_cases h4 : j = Int.toNat i
  · subst h4
    exact .inl (Option.some.inj (hj.symm.trans hget))
  · obtain ⟨p1, e1⟩ := List.getElem?_eq_some_iff.1 hj
    obtain ⟨p2, e2⟩ := List.getElem?_eq_some_iff.1 hget
    have := List.pairwise_iff_getElem.1 hf.2 j (Int.toNat i) p1 p2 (by omega)
    rw [e1, e2] at this
    exact .inr this
theorem rReach {n : Nat} (hn : 1000000 ≤ n) {t : Int} (h0 : -9223372036854775808 ≤ t) (h1 : t ≤ 9223372036854775807) : A5Reach n (t, ()) = Deyear n (t, ()) := by
  unfold A5Reach A5Reach_px
  simp only [rClock n h0 h1, Option.bind_some]
  rcases year_cases (t := t) with ⟨y, m, d, h, he⟩ | h
  · rw [cYear_ok n h0 h1 h he, ← he, rDate_ok hn h, Option.bind_some]
    simp only [cb_eq, if_true, cb_dec, ge_iff_le]
    by_cases c : -9998 ≤ y
    · rw [if_pos c]; congr 3; rw [decide_eq_decide]; omega
    · rw [if_neg c]; congr 3; symm; rw [decide_eq_false_iff_not]; omega
  · rw [cYear_no n h0 h1 h, rDate_no hn h, Option.bind_some]
    rfl
/-- The year up to which fires count: one behind the instant's; none, out of reach. -/
def hiOf (v : Int × (Bool × Unit)) : Int := if v.2.1 = true then v.1 + 1 else 0
theorem eYearB (n : Nat) {t : Int} (h0 : -9223372036854775808 ≤ t) (h1 : t ≤ 9223372036854775807) : Ok (Deyear n (t, ())) (fun v => (-9999 ≤ v.1 ∧ v.1 ≤ 9999) ∧ (v.2.1 = true → -9998 ≤ v.1 ∧ v.1 ≤ 9998)) := by
  rcases year_cases (t := t) with ⟨y, m, d, h, he⟩ | h
  · rw [cYear_ok n h0 h1 h he]
    have := rightB_iff.1 h
    exact Ok.ret ⟨⟨this.1, this.2.1⟩, fun hd => of_decide_eq_true hd⟩
  · rw [cYear_no n h0 h1 h]
    exact Ok.ret ⟨by decide, fun h => by cases h⟩
theorem pSaving {n : Nat} (hn : 1000000 ≤ n) {l : List D_api_Rule} (hl : RulesB l) {off : Int} (ho : -100000 ≤ off ∧ off ≤ 100000) {t : Int} (h0 : -9223372036854775808 ≤ t) (h1 : t ≤ 9223372036854775807) {y : Int × (Bool × Unit)} (hy : Deyear n (t, ()) = some y) : Ok (DeSaving n (l, (off, (t, ())))) (SavQ l off t (hiOf y)) := by
  unfold DeSaving DeSaving_px
  obtain ⟨y', hy', hyr, hyb⟩ := eYearB n h0 h1
  obtain rfl := Option.some.inj (hy'.symm.trans hy)
  rw [hy, Option.bind_some]
  -- nothing fires
  have fin : (∀ f, FireIn l f → f.2.1 ≤ hiOf y' → ¬ Cand l off t f) → Ok ((ELetter n (l, ())).bind fun v2 => some ((0 : Int), (v2.1, ()))) (SavQ l off t (hiOf y')) := fun h => Ok.bind (pLetter hn hl) fun v hv => Ok.ret (.inl ⟨rfl, hv, h⟩)
  cases hvb : y'.2.1
  · refine fin fun f hf hle => ?_
    have : hiOf y' = 0 := by unfold hiOf; rw [hvb]; rfl
    have := hf.years
    omega
  have hhi : hiOf y' = y'.1 + 1 := by unfold hiOf; rw [hvb]; rfl
  have hyv := hyb hvb
  simp only [Bool.not_true, cond_false]
  refine Ok.bif (fun hz => ?_) (fun hz => ?_)
  · refine fin fun f hf _ => ?_
    have := hf.lt
    have hz : (l.length : Int) = 0 := by simpa using hz
    omega
  refine Ok.bind (pSpan hn hl) fun s hs => ?_
  obtain ⟨hs1, hs2, hs3, hs4⟩ := hs
  rw [w64_id (x := y'.1 + 1) (by omega) (by omega)]
  have m1 := imin_or (y'.1 + 1) 9999
  have m2 := imin_or (imin (y'.1 + 1) 9999) s.2.1
  have main : ∀ top : Int, -30000 ≤ top → top ≤ 10000 → top ≤ hiOf y' → (∀ f, FireIn l f → f.2.1 ≤ hiOf y' → f.2.1 ≤ top) → Ok (DeSaving_s0 n (l, off, t, s.1, top)) (SavQ l off t (hiOf y')) := by
    intro top t0 t1 tH htop
    unfold DeSaving_s0 DeSaving_p0 DeSaving_s2
    refine rounds_ok (fun z => ∃ to : Int, z = (l, off, t, s.1, to) ∧ -30010 ≤ to ∧ to ≤ 10000 ∧ to ≤ hiOf y' ∧ ∀ g, FireIn l g → g.2.1 ≤ hiOf y' → to < g.2.1 → ¬ Cand l off t g) (fun z => (z.2.2.2.2 + 31000).toNat) ?_ n _ ⟨top, rfl, by omega, by omega, tH, fun g hg hgy h => by have := htop g hg hgy; omega⟩ (by show (top + 31000).toNat < n; omega)
    rintro rec z ⟨to, rfl, q0, q1, qH, hno⟩ ih
    simp only [DeSaving_s3, DeSaving_p3]
    refine Ok.dec (fun hto => ?_) (fun hto => fin fun f hf hfy => ?_)
    · have hto : to ≥ s.1 := hto
      rw [w64_id (x := to - 7) (by omega) (by omega)]
      refine Ok.bind (pFrom hn hl (by omega) (by omega) (by omega) (by omega)) fun fs hfs => ?_
      obtain ⟨⟨gs, sv, hg, hsv, hfe⟩, hfl⟩ := hfs
      rw [hfe] at hfl ⊢
      rw [w64_id (by omega) (by omega)]
      have hal := annot_length l gs sv
      unfold DeSaving_s5
      refine rounds_ok (fun z => ∃ i : Int, z = (l, off, t, s.1, to, i, annot l sv gs) ∧ -1 ≤ i ∧ i < ((annot l sv gs).length : Int) ∧ ∀ (j : Nat) g, i < (j : Int) → gs[j]? = some g → ¬ Cand l off t g) (fun z => (z.2.2.2.2.2.1 + 1).toNat) ?_ n _ ⟨((annot l sv gs).length : Int) - 1, rfl, by omega, by omega, fun j g hj h => by have := (List.getElem?_eq_some_iff.1 h).1; omega⟩ (by show (((annot l sv gs).length : Int) - 1 + 1).toNat < n; omega)
      rintro rec2 z ⟨i, rfl, i0, i1, hbh⟩ ih2
      simp only [DeSaving_s6, DeSaving_p6]
      refine Ok.dec (fun hi => ?_) (fun hi => ?_)
      · refine Ok.dec (fun _ => ?_) (fun h => absurd ⟨hi, i1⟩ h)
        obtain ⟨f, r, e, hget, hf, hfab, hr, hge, he1, hin, hc⟩ := scan_at (t := t) hl hg hsv ho hi i1
        rw [hge, Option.bind_some, (hin n).1, Option.bind_some]
        refine Ok.dec (fun hle => ?_) (fun hle => ?_)
        · refine Ok.dec (fun _ => ?_) (fun h => absurd ⟨hi, i1⟩ h)
          rw [Option.bind_some]
          have hcf := hc.2 hle
          refine Ok.dec (fun _ => ?_) (fun h => absurd (by show 0 ≤ e.1; rw [he1]; exact hf.lt.1) h)
          show Ok ((l[Int.toNat e.1]?).bind _) _
          rw [he1, hr, Option.bind_some]
          exact Ok.ret (.inr ⟨f, r, hf, by omega, hcf, hr, rfl, rfl, scan_hit hg hi hget rfl hno hbh⟩)
        · rw [w64_id (by omega) (by omega)]
          refine ih2 _ ⟨i - 1, rfl, by omega, by omega, fun j g hj h => ?_⟩ (by show (i - 1 + 1).toNat < (i + 1).toNat; omega)
          by_cases hji : (j : Int) = i
          · rw [show j = Int.toNat i by omega, hget] at h
            obtain rfl := Option.some.inj h
            exact fun q => hle (hc.1 q)
          · exact hbh j g (by omega) h
      · simp only [DeSaving_s4, DeSaving_p4]
        rw [w64_id (by omega) (by omega)]
        have hi : ¬ i ≥ 0 := hi
        refine ih _ ⟨to - 8, rfl, by omega, by omega, by omega, fun g hg' hgy hlt => ?_⟩ (by show (to - 8 + 31000).toNat < (to + 31000).toNat; omega)
        by_cases h2 : to < g.2.1
        · exact hno g hg' hgy h2
        · obtain ⟨j, hj⟩ := List.mem_iff_getElem?.1 ((hg.1 g).2 ⟨hg', by omega, by omega⟩)
          exact hbh j g (by omega) hj
    · have hto : ¬ to ≥ s.1 := hto
      obtain ⟨r, hrm, _, hfrom, _⟩ := hf.rule
      have := hs1 r hrm
      exact hno f hf hfy (by omega)
  refine Ok.bif (fun he => main _ (by omega) (by omega) (by omega) fun f hf hfy => ?_) (fun he => main _ (by omega) (by omega) (by omega) fun f hf hfy => ?_)
  · obtain ⟨r, hrm, _, _, hto⟩ := hf.rule
    have := hs2 (by simpa using he) r hrm
    have := hf.years
    omega
  · have := hf.years
    omega
theorem rSaving {n : Nat} (hn : 1000000 ≤ n) {l : List D_api_Rule} (hl : RulesB l) {off : Int} (ho : -100000 ≤ off ∧ off ≤ 100000) {t : Int} (h0 : -9223372036854775808 ≤ t) (h1 : t ≤ 9223372036854775807) {y : Int × (Bool × Unit)} (hy : Deyear n (t, ()) = some y) : Ok (A5Saving n (l, (off, (t, ())))) (SavQ l off t (hiOf y)) := by
  unfold A5Saving A5Saving_px
  obtain ⟨y', hy', hyr, hyb⟩ := eYearB n h0 h1
  obtain rfl := Option.some.inj (hy'.symm.trans hy)
  simp only [rReach hn h0 h1]
  rw [hy, Option.bind_some]
  refine Ok.bind (rSpan hn hl) fun s hs => ?_
  obtain ⟨hs1, hs2, hs3, hs4⟩ := hs
  have fin : (∀ f, FireIn l f → f.2.1 ≤ hiOf y' → ¬ Cand l off t f) → Ok (A5Saving_s1 n l) (SavQ l off t (hiOf y')) := fun h => by
    simp only [A5Saving_s1, A5Saving_p1]
    exact Ok.bind (rLetter hn hl) fun v hv => Ok.ret (.inl ⟨rfl, hv, h⟩)
  have m0 := imax_or s.1 1
  have main : ∀ y1 : Int, -20000 ≤ y1 → y1 ≤ 9999 → (y'.2.1 = true → y1 ≤ y'.1) → (y'.2.1 = true → ∀ f, FireIn l f → f.2.1 ≤ hiOf y' → f.2.1 ≤ y1 + 1) → Ok (A5Saving_s0 n (l, off, t, y1, y'.2.1, s.1)) (SavQ l off t (hiOf y')) := by
    intro y1 t0 t1 tH htop
    unfold A5Saving_s0 A5Saving_p0 A5Saving_s2
    rw [w64_id (x := y1 + 1) (by omega) (by omega)]
    have m1 := imin_or (y1 + 1) 9999
    have hH : y'.2.1 = true → hiOf y' = y'.1 + 1 := fun h => by unfold hiOf; rw [if_pos h]
    refine rounds_ok (fun z => ∃ x : Int, z = (l, off, t, y'.2.1, s.1, x) ∧ -30010 ≤ x ∧ x ≤ 9999 ∧ (y'.2.1 = true → x ≤ hiOf y') ∧ ∀ g, FireIn l g → g.2.1 ≤ hiOf y' → x < g.2.1 → y'.2.1 = true → ¬ Cand l off t g) (fun z => (z.2.2.2.2.2 + 31000).toNat) ?_ n _ ⟨imin (y1 + 1) 9999, rfl, by omega, by omega, fun h => by have := hH h; have := tH h; omega, fun g hg hgy h h' => by have := htop h' g hg hgy; have := hg.years; omega⟩ (by show (imin (y1 + 1) 9999 + 31000).toNat < n; omega)
    rintro rec z ⟨x, rfl, q0, q1, qH, hno⟩ ih
    simp only [A5Saving_s3, A5Saving_p3, A5Saving_s5, A5Saving_p5]
    cases hvb : y'.2.1
    · simp only [cond_false]
      refine fin fun f hf hle => ?_
      have : hiOf y' = 0 := by unfold hiOf; rw [hvb]; rfl
      have := hf.years
      omega
    have qH := qH hvb
    have hno : ∀ g, FireIn l g → g.2.1 ≤ hiOf y' → x < g.2.1 → ¬ Cand l off t g := fun g a b c => hno g a b c hvb
    simp only [cond_true]
    refine Ok.dec (fun hlen => ?_) (fun hlen => ?_)
    · refine Ok.dec (fun hx => ?_) (fun hx => fin fun f hf hfy => ?_)
      · have hx : x ≥ imax s.1 1 := hx
        simp only [A5Saving_s4, A5Saving_p4]
        refine Ok.bind (rYearF hn hl (by omega) (by omega)) fun fs hfs => ?_
        obtain ⟨⟨gs, sv, hg, hsv, hfe⟩, hfl⟩ := hfs
        rw [hfe] at hfl ⊢
        rw [w64_id (by omega) (by omega)]
        have hal := annot_length l gs sv
        unfold A5Saving_s7
        refine rounds_ok (fun z => ∃ i : Int, z = (l, off, t, true, s.1, x, i, annot l sv gs) ∧ -1 ≤ i ∧ i < ((annot l sv gs).length : Int) ∧ ∀ (j : Nat) g, i < (j : Int) → gs[j]? = some g → ¬ Cand l off t g) (fun z => (z.2.2.2.2.2.2.1 + 1).toNat) ?_ n _ ⟨((annot l sv gs).length : Int) - 1, rfl, by omega, by omega, fun j g hj h => by have := (List.getElem?_eq_some_iff.1 h).1; omega⟩ (by show (((annot l sv gs).length : Int) - 1 + 1).toNat < n; omega)
        rintro rec2 z ⟨i, rfl, i0, i1, hbh⟩ ih2
        simp only [A5Saving_s8, A5Saving_p8]
        refine Ok.dec (fun hi => ?_) (fun hi => ?_)
        · refine Ok.dec (fun _ => ?_) (fun h => absurd ⟨hi, i1⟩ h)
          obtain ⟨f, r, e, hget, hf, hfab, hr, hge, he1, hin, hc⟩ := scan_at (t := t) hl hg hsv ho hi i1
          rw [hge, Option.bind_some, (hin n).2, Option.bind_some]
          refine Ok.dec (fun hle => ?_) (fun hle => ?_)
          · refine Ok.dec (fun _ => ?_) (fun h => absurd ⟨hi, i1⟩ h)
            rw [Option.bind_some]
            have hcf := hc.2 hle
            refine Ok.dec (fun _ => ?_) (fun h => absurd (by show 0 ≤ e.1; rw [he1]; exact hf.lt.1) h)
            show Ok ((l[Int.toNat e.1]?).bind _) _
            rw [he1, hr, Option.bind_some]
            refine Ok.dec (fun _ => ?_) (fun h => absurd ⟨hi, i1⟩ h)
            rw [Option.bind_some]
            refine Ok.dec (fun _ => ?_) (fun h => absurd (by show 0 ≤ e.1; rw [he1]; exact hf.lt.1) h)
            show Ok ((l[Int.toNat e.1]?).bind _) _
            rw [he1, hr, Option.bind_some]
            exact Ok.ret (.inr ⟨f, r, hf, by omega, hcf, hr, rfl, rfl, scan_hit hg hi hget rfl hno hbh⟩)
          · rw [w64_id (by omega) (by omega)]
            refine ih2 _ ⟨i - 1, rfl, by omega, by omega, fun j g hj h => ?_⟩ (by show (i - 1 + 1).toNat < (i + 1).toNat; omega)
            by_cases hji : (j : Int) = i
            · rw [show j = Int.toNat i by omega, hget] at h
              obtain rfl := Option.some.inj h
              exact fun q => hle (hc.1 q)
            · exact hbh j g (by omega) h
        · simp only [A5Saving_s6, A5Saving_p6]
          rw [w64_id (by omega) (by omega)]
          have hi : ¬ i ≥ 0 := hi
          refine ih _ ⟨x - 1, by rw [hvb], by omega, by omega, fun _ => by omega, fun g hg' hgy hlt _ => ?_⟩ (by show (x - 1 + 31000).toNat < (x + 31000).toNat; omega)
          by_cases h2 : x < g.2.1
          · exact hno g hg' hgy h2
          · obtain ⟨j, hj⟩ := List.mem_iff_getElem?.1 ((hg.1 g).2 ⟨hg', by omega, by omega⟩)
            exact hbh j g (by omega) hj
      · have hx : ¬ x ≥ imax s.1 1 := hx
        obtain ⟨r, hrm, _, hfrom, _⟩ := hf.rule
        have := hs1 r hrm
        have := hf.years
        exact hno f hf hfy (by omega)
    · refine fin fun f hf _ => ?_
      have := hf.lt
      have hlen : ¬ (l.length : Int) > 0 := hlen
      omega
  have m2 := imin_or y'.1 s.2.1
  refine Ok.bif (fun he => main _ (by omega) (by omega) (fun _ => by omega) fun hv f hf hfy => ?_) (fun he => main _ (by omega) (by omega) (fun _ => by omega) fun hv f hf hfy => ?_)
  · obtain ⟨r, hrm, _, _, hto⟩ := hf.rule
    have := hs2 (by simpa using he) r hrm
    have hH : hiOf y' = y'.1 + 1 := by unfold hiOf; rw [if_pos hv]
    omega
  · have hH : hiOf y' = y'.1 + 1 := by unfold hiOf; rw [if_pos hv]
    omega
/-- The document's answer and the program's are one. -/
theorem saving_eq {n : Nat} (hn : 1000000 ≤ n) {l : List D_api_Rule} (hl : RulesB l) {off : Int} (ho : -100000 ≤ off ∧ off ≤ 100000) {t : Int} (h0 : -9223372036854775808 ≤ t) (h1 : t ≤ 9223372036854775807) : ∃ v, DeSaving n (l, (off, (t, ()))) = some v ∧ A5Saving n (l, (off, (t, ()))) = some v ∧ (-100000 ≤ v.1 ∧ v.1 ≤ 100000) ∧ v.2.1.size ≤ 50 := by
  obtain ⟨y, hy, _⟩ := eYearB n h0 h1
  obtain ⟨v, hv, hq⟩ := pSaving hn hl ho h0 h1 hy
  obtain ⟨w, hw, hk⟩ := rSaving hn hl ho h0 h1 hy
  obtain rfl := hq.uniq hk
  obtain ⟨u, hu, hsz⟩ := eSaving hn hl off h0 h1
  obtain rfl := Option.some.inj (hv.symm.trans hu)
  refine ⟨v, hv, hw, ?_, hsz⟩
  rcases hq with ⟨h, _⟩ | ⟨f, r, hf, _, _, hr, h, _⟩
  · omega
  · have := hl.2 r (List.mem_of_getElem? hr)
    unfold RuleB at this
    omega
end Go.Proofs.YtadamegddcadcaaGreatDoorPi

namespace Go.Proofs.YtadamegddcadcaaGreatDoorPi
open Go
set_option maxRecDepth 100000
set_option maxHeartbeats 1000000
set_option linter.unusedVariables false

/-! ends of eras: the document's answer and the program's are one -/
theorem clock_eq {n : Nat} (hn : 1000000 ≤ n) (u : D_api_Until) : A5clock n (u, ()) = Declock n (u, ()) := by
  unfold A5clock A5clock_px Declock Declock_px
  simp only [rOf hn, dOf, Option.bind_some]
theorem zsav_eq {n : Nat} (hn : 1000000 ≤ n) {z : D_A5Zone} (hz : ZoneB z) {i t : Int} (i0 : 0 ≤ i) {e : D_api_Era} (he : z.1[Int.toNat i]? = some e) (hr : i < (z.2.1.length : Int) ∨ e.2.1 ≠ 2) (h0 : -9223372036854775808 ≤ t) (h1 : t ≤ 9223372036854775807) :
    ∃ v, DeZone_saving n (z, (i, (t, ()))) = some v ∧ A5Zone_saving n (z, (i, (t, ()))) = some v ∧ (-100000 ≤ v.1 ∧ v.1 ≤ 100000) := by
  have hE := hz.2.2.1 e (List.mem_of_getElem? he)
  unfold EraB at hE
  unfold DeZone_saving DeZone_saving_px DeZone_saving_s0 DeZone_saving_p0 A5Zone_saving A5Zone_saving_px
  simp only [decide_eq_true i0, cond_true, he, Option.bind_some, cb_eq]
  by_cases k1 : e.2.1 = 1
  · rw [if_pos k1, if_pos k1]
    exact ⟨_, rfl, rfl, by show -100000 ≤ e.2.2.1 ∧ e.2.2.1 ≤ 100000; omega⟩
  rw [if_neg k1, if_neg k1]
  by_cases k2 : e.2.1 = 2
  · rw [if_pos k2, if_pos k2]
    have hi : i < (z.2.1.length : Int) := hr.resolve_right (fun h => h k2)
    obtain ⟨l, hl⟩ : ∃ l, z.2.1[Int.toNat i]? = some l := ⟨_, List.getElem?_eq_getElem (show Int.toNat i < z.2.1.length by omega)⟩
    have hL := hz.2.2.2 l (List.mem_of_getElem? hl)
    obtain ⟨v, hv, hw, hb, _⟩ := saving_eq hn hL (off := e.1) (by omega) h0 h1
    simp only [decide_eq_true hi, cond_true, hl, Option.bind_some, hv, hw]
    exact ⟨_, rfl, rfl, hb⟩
  · rw [if_neg k2, if_neg k2]
    exact ⟨_, rfl, rfl, by decide⟩
theorem end_eq {n : Nat} (hn : 1000000 ≤ n) {z : D_A5Zone} (hz : ZoneB z) (i : Int) : A5End n (z, (i, ())) = DeEnd n (z, (i, ())) := by
  unfold A5End A5End_px DeEnd DeEnd_px
  simp only [A5End_s1, A5End_p1, A5End_s0, A5End_p0, A5End_s2, A5End_p2, A5End_s3, A5End_p3, DeEnd_s1, DeEnd_p1, DeEnd_s0, DeEnd_p0, cond_true, cb_dec, cb_eq, cb_ne, ge_iff_le]
  by_cases c1 : i < 0
  · rw [if_pos c1, if_pos c1]
  rw [if_neg c1, if_neg c1]
  by_cases c2 : (z.1.length : Int) ≤ i
  · rw [if_pos c2, if_pos c2]
  rw [if_neg c2, if_neg c2]
  have i0 : 0 ≤ i := by omega
  obtain ⟨e, he⟩ : ∃ e, z.1[Int.toNat i]? = some e := ⟨_, List.getElem?_eq_getElem (show Int.toNat i < z.1.length by omega)⟩
  obtain ⟨b1, b2, b3, b4, b5, b6⟩ := hz.2.2.1 e (List.mem_of_getElem? he)
  simp only [if_pos i0, he, Option.bind_some, clock_eq hn]
  obtain ⟨v, hv, hvb⟩ := eClockU n e.2.2.2.2.2.1 b5 b6.1
  simp only [hv, Option.bind_some]
  cases e.2.2.2.2.2.1.1
  · rfl
  simp only [Bool.not_true, cond_false]
  cases v.2.1
  · rfl
  simp only [Bool.not_true, cond_false]
  by_cases k0 : e.2.2.2.2.2.1.2.2.2.2.1.2.1 = 0
  · rw [if_pos k0, if_pos k0, w64_id (x := v.1 - e.1) (by omega) (by omega), w64_id (x := v.1 - e.1 - 1) (by omega) (by omega)]
    by_cases hr : i < (z.2.1.length : Int)
    · rw [if_pos hr]
      obtain ⟨w, h1, h2, _⟩ := zsav_eq hn hz i0 he (.inl hr) (t := v.1 - e.1 - 1) (by omega) (by omega)
      rw [h1, h2]
    · rw [if_neg hr]
      by_cases k2 : e.2.1 = 2
      · rw [if_pos k2]
        have : DeZone_saving n (z, (i, (v.1 - e.1 - 1, ()))) = some ((0 : Int), ((⟨#[]⟩ : ByteArray), ())) := by
          unfold DeZone_saving DeZone_saving_px DeZone_saving_s0 DeZone_saving_p0
          simp only [decide_eq_true i0, cond_true, he, Option.bind_some, cb_eq, k2, cb_dec, if_neg hr]
          rw [if_neg (by omega)]; rfl
        rw [this]; rfl
      · rw [if_neg k2]
        obtain ⟨w, h1, h2, _⟩ := zsav_eq hn hz i0 he (.inr k2) (t := v.1 - e.1 - 1) (by omega) (by omega)
        rw [h1, h2]
  · rw [if_neg k0, if_neg k0]
def endN (n : Nat) (z : D_A5Zone) (i : Int) : Int := match DeEnd n (z, (i, ())) with
  | some v => v.1
  | none => 0
theorem pEnd {n : Nat} (hn : 1000000 ≤ n) {z : D_A5Zone} (hz : ZoneB z) (i : Int) : DeEnd n (z, (i, ())) = some (endN n z i, ()) := by
  obtain ⟨v, hv, _⟩ := eEnd hn hz i
  unfold endN; rw [hv]
theorem rEnd {n : Nat} (hn : 1000000 ≤ n) {z : D_A5Zone} (hz : ZoneB z) (i : Int) : A5End n (z, (i, ())) = some (endN n z i, ()) := by
  rw [end_eq hn hz, pEnd hn hz]

/-! right zones -/
def clkP (a : D_api_At) : Prop := (-604799 ≤ a.1 ∧ a.1 ≤ 604799) ∧ (0 ≤ a.2.1 ∧ a.2.1 ≤ 2)
def ruleP (r : D_api_Rule) : Prop := (-86400 ≤ r.2.2.2.2.2.2.1 ∧ r.2.2.2.2.2.2.1 ≤ 86400) ∧ clkP r.2.2.2.2.2.1
def untilP (n : Nat) (u : D_api_Until) : Prop := (∃ v, Declock n (u, ()) = some v ∧ v.2.1 = true) ∧ clkP u.2.2.2.2.1
def fitP (n : Nat) (e : D_api_Era) (l : List D_api_Rule) : Prop :=
  (-86400 ≤ e.1 ∧ e.1 ≤ 86400) ∧ (0 ≤ e.2.1 ∧ e.2.1 ≤ 2) ∧ (e.2.1 = 1 → -86400 ≤ e.2.2.1 ∧ e.2.2.1 ≤ 86400) ∧ l.length ≤ 24 ∧ (e.2.2.2.2.2.1.1 = true → untilP n e.2.2.2.2.2.1) ∧ ∀ r, r ∈ l → ruleP r
theorem pWithin (n : Nat) (a : Int) {b : Int} (h0 : 0 ≤ b) (h1 : b ≤ 1000000) : Dewithin n (a, (b, ())) = some (decide (-b ≤ a ∧ a ≤ b), ()) := by
  unfold Dewithin Dewithin_px
  simp only [cb_dec, ge_iff_le]
  rw [w64_id (by omega) (by omega)]
  by_cases c : 0 - b ≤ a
  · rw [if_pos c]; congr 2; rw [decide_eq_decide]; omega
  · rw [if_neg c]; congr 2; symm; rw [decide_eq_false_iff_not]; omega
theorem rWithin (n : Nat) (a : Int) {b : Int} (h0 : 0 ≤ b) (h1 : b ≤ 1000000) : A5within n (a, (b, ())) = some (decide (-b ≤ a ∧ a ≤ b), ()) := pWithin n a h0 h1
theorem pClocked (n : Nat) (a : D_api_At) : Ok (Declocked n (a, ())) (fun v => v.1 = true ↔ clkP a) := by
  unfold Declocked Declocked_px clkP
  simp only [pWithin n _ (b := 604799) (by omega) (by omega), Option.bind_some]
  refine Ok.dec (fun h => Ok.dec (fun h' => Ok.ret ?_) (fun h' => Ok.ret ?_)) (fun h => Ok.ret ?_)
  · have h' : a.2.1 ≥ 0 := h'
    simp only [decide_eq_true_iff]; omega
  · have h' : ¬ a.2.1 ≥ 0 := h'
    simp only [Bool.false_eq_true, false_iff]; omega
  · simp only [Bool.false_eq_true, false_iff]; exact fun q => h q.1
theorem pFits1 (n : Nat) (r : D_api_Rule) : Ok (Defits_1 n (r, ())) (fun v => v.1 = true ↔ ¬ ruleP r) := by
  unfold Defits_1 Defits_1_px ruleP
  simp only [pWithin n _ (b := 86400) (by omega) (by omega), Option.bind_some]
  rw [cb_not]
  refine Ok.dec (fun h => ?_) (fun h => Ok.ret ?_)
  · refine Ok.bind (pClocked n _) fun v hv => Ok.ret ?_
    show (!v.1) = true ↔ _
    rw [Bool.not_eq_true', ← Bool.not_eq_true, hv]
    exact ⟨fun q w => q w.2, fun q w => q ⟨h, w⟩⟩
  · simp only [true_iff]; exact fun q => h q.1
theorem pContains {n : Nat} (hn : 1000000 ≤ n) (l : List D_api_Rule) (hl : l.length ≤ 24) (u : Unit × Unit) : Ok (slices_ContainsFunc_api_Rule_api_Rule_Defits_1 n (l, u)) (fun v => v.1 = true ↔ ¬ ∀ r, r ∈ l → ruleP r) := by
  unfold slices_ContainsFunc_api_Rule_api_Rule_Defits_1 slices_ContainsFunc_api_Rule_api_Rule_Defits_1_px
  refine Ok.bind (P := fun v => (0 ≤ v.1 ∧ ¬ ∀ r, r ∈ l → ruleP r) ∨ (v.1 = -1 ∧ ∀ r, r ∈ l → ruleP r)) ?_ fun v hv => Ok.ret (by
    show decide (v.1 ≥ 0) = true ↔ _
    rw [decide_eq_true_iff]
    rcases hv with ⟨h, h'⟩ | ⟨h, h'⟩
    · exact ⟨fun _ => h', fun _ => h⟩
    · exact ⟨fun q => by omega, fun q => absurd h' q⟩)
  unfold slices_IndexFunc_api_Rule_api_Rule_Defits_1 slices_IndexFunc_api_Rule_api_Rule_Defits_1_px slices_IndexFunc_api_Rule_api_Rule_Defits_1_s1
  refine rounds_ok (fun z => ∃ i : Int, z = (l, (l.length : Int), i) ∧ 0 ≤ i ∧ i ≤ (l.length : Int) ∧ ∀ (j : Nat) r, (j : Int) < i → l[j]? = some r → ruleP r) (fun z => ((l.length : Int) - z.2.2).toNat) ?_ n _ ⟨0, rfl, by omega, by omega, fun j r h => by omega⟩ (by show ((l.length : Int) - 0).toNat < n; omega)
  rintro rec z ⟨i, rfl, i0, i1, hI⟩ ih
  simp only [slices_IndexFunc_api_Rule_api_Rule_Defits_1_s2, slices_IndexFunc_api_Rule_api_Rule_Defits_1_p2, slices_IndexFunc_api_Rule_api_Rule_Defits_1_s0, slices_IndexFunc_api_Rule_api_Rule_Defits_1_p0]
  refine Ok.dec (fun hi => ?_) (fun hi => Ok.ret (.inr ⟨rfl, fun r hr => ?_⟩))
  · refine Ok.dec (fun _ => ?_) (fun h => absurd i0 h)
    refine Ok.bind (Ok.get i0 hi) fun r hr => Ok.bind (pFits1 n r) fun v hv => Ok.bif (fun hb => Ok.ret (.inl ⟨i0, fun q => hv.1 hb (q r hr.1)⟩)) (fun hb => ?_)
    rw [w64_id (by omega) (by omega)]
    refine ih _ ⟨i + 1, rfl, by omega, by omega, fun j q hj hq => ?_⟩ (by show ((l.length : Int) - (i + 1)).toNat < ((l.length : Int) - i).toNat; omega)
    by_cases hji : (j : Int) = i
    · rw [show j = Int.toNat i by omega, hr.2] at hq
      obtain rfl := Option.some.inj hq
      exact Classical.byContradiction fun h => by rw [hv.2 h] at hb; cases hb
    · exact hI j q (by omega) hq
  · obtain ⟨j, hj⟩ := List.mem_iff_getElem?.1 hr
    have := (List.getElem?_eq_some_iff.1 hj).1
    have hi : ¬ i < (l.length : Int) := hi
    exact hI j r (by omega) hj
theorem pFits {n : Nat} (hn : 1000000 ≤ n) {e : D_api_Era} (he : EraB e) {l : List D_api_Rule} (hl : l.length ≤ 24) : Ok (Defits n (e, (l, ()))) (fun v => v.1 = true ↔ fitP n e l) := by
  obtain ⟨b1, b2, b3, b4, b5, b6⟩ := he
  have two : ∀ P : Prop, P → Ok (Defits_s2 n l) (fun v => v.1 = true ↔ P ∧ ∀ r, r ∈ l → ruleP r) := fun P hP => by
    simp only [Defits_s2, Defits_p2]
    refine Ok.bind (pContains hn l hl _) fun v hv => Ok.ret ?_
    show (!v.1) = true ↔ _
    rw [Bool.not_eq_true', ← Bool.not_eq_true, hv]
    exact ⟨fun q => ⟨hP, Classical.not_not.1 q⟩, fun q w => w q.2⟩
  have zero : Ok (Defits_s0 n (l, e)) (fun v => v.1 = true ↔ (e.2.2.2.2.2.1.1 = true → untilP n e.2.2.2.2.2.1) ∧ ∀ r, r ∈ l → ruleP r) := by
    simp only [Defits_s0, Defits_p0]
    refine Ok.bif (fun hh => ?_) (fun hh => two _ (fun q => by rw [q] at hh; cases hh))
    obtain ⟨v, hv, _⟩ := eClockU n e.2.2.2.2.2.1 b5 b6.1
    rw [hv, Option.bind_some]
    cases hvb : v.2.1
    · refine Ok.ret ?_
      simp only [Bool.false_eq_true, false_iff]
      intro q
      obtain ⟨⟨w, hw, hwb⟩, _⟩ := q.1 hh
      obtain rfl := Option.some.inj (hw.symm.trans hv)
      rw [hvb] at hwb; cases hwb
    · simp only [Bool.not_true, cond_false]
      refine Ok.bind (pClocked n _) fun w hw => ?_
      rw [cb_not]
      refine Ok.bif (fun hb => two _ (fun _ => ⟨⟨v, hv, hvb⟩, hw.1 hb⟩)) (fun hb => Ok.ret ?_)
      simp only [Bool.false_eq_true, false_iff]
      intro q
      rw [hw.2 (q.1 hh).2] at hb; cases hb
  have yes : (-86400 ≤ e.1 ∧ e.1 ≤ 86400) ∧ (0 ≤ e.2.1 ∧ e.2.1 ≤ 2) ∧ (e.2.1 = 1 → -86400 ≤ e.2.2.1 ∧ e.2.2.1 ≤ 86400) → Ok (Defits_s1 n (Defits_s0 n) (l, (decide ((l.length : Int) > 24)), e)) (fun v => v.1 = true ↔ fitP n e l) := fun h => by
    simp only [Defits_s1, Defits_p1]
    refine Ok.dec (fun q => absurd q (by show ¬ (l.length : Int) > 24; omega)) (fun _ => zero.mono fun v hv => hv.trans ⟨fun q => ⟨h.1, h.2.1, h.2.2, hl, q.1, q.2⟩, fun q => ⟨q.2.2.2.2.1, q.2.2.2.2.2⟩⟩)
  have no : ¬ ((-86400 ≤ e.1 ∧ e.1 ≤ 86400) ∧ (0 ≤ e.2.1 ∧ e.2.1 ≤ 2) ∧ (e.2.1 = 1 → -86400 ≤ e.2.2.1 ∧ e.2.2.1 ≤ 86400)) → Ok (Defits_s1 n (Defits_s0 n) (l, true, e)) (fun v => v.1 = true ↔ fitP n e l) := fun h => by
    simp only [Defits_s1, Defits_p1, cond_true]
    refine Ok.ret ?_
    simp only [Bool.false_eq_true, false_iff]
    exact fun q => h ⟨q.1, q.2.1, q.2.2.1⟩
  unfold Defits Defits_px
  simp only [pWithin n _ (b := 86400) (by omega) (by omega), Option.bind_some, cb_eq, cb_not]
  refine Ok.dec (fun h1 => Ok.dec (fun h2 => no ?_) (fun h2 => Ok.dec (fun h3 => no ?_) (fun h3 => ?_))) (fun h1 => no (fun q => h1 q.1))
  · have h2 : e.2.1 < 0 := h2; omega
  · have h3 : e.2.1 > 2 := h3; omega
  · have h2 : ¬ e.2.1 < 0 := h2
    have h3 : ¬ e.2.1 > 2 := h3
    by_cases hk : e.2.1 = 1
    · rw [if_pos hk]
      exact Ok.dec (fun h4 => yes ⟨h1, by omega, fun _ => h4⟩) (fun h4 => no (fun q => h4 (q.2.2 hk)))
    · rw [if_neg hk]
      exact yes ⟨h1, by omega, fun q => absurd q hk⟩
end Go.Proofs.YtadamegddcadcaaGreatDoorPi

namespace Go.Proofs.YtadamegddcadcaaGreatDoorPi
open Go
set_option maxRecDepth 100000
set_option maxHeartbeats 1000000
set_option linter.unusedVariables false

def fitsAll (n : Nat) (z : D_A5Zone) : Prop := (1 ≤ z.1.length ∧ z.1.length ≤ 8 ∧ z.2.1.length = z.1.length) ∧ ∀ (i : Nat) e l, z.1[i]? = some e → z.2.1[i]? = some l → fitP n e l
def opens (z : D_A5Zone) : Prop := ∀ (i : Nat) e, z.1[i]? = some e → e.2.2.2.2.2.1.1 = decide ((i : Int) < (z.1.length : Int) - 1)
def rises (n : Nat) (z : D_A5Zone) : Prop := ∀ i : Int, 0 ≤ i → i + 1 < (z.1.length : Int) - 1 → endN n z i < endN n z (i + 1)
def RightQ (n : Nat) (z : D_A5Zone) (k : Int) : Prop := (k = 1 ∧ ¬ fitsAll n z) ∨ (fitsAll n z ∧ ((k = 21 ∧ ¬ opens z) ∨ (opens z ∧ ((k = 14 ∧ ¬ rises n z) ∨ (k = 0 ∧ rises n z)))))
theorem RightQ.uniq {n : Nat} {z : D_A5Zone} {k m : Int} (h : RightQ n z k) (q : RightQ n z m) : k = m := by
  unfold RightQ at *
  rcases h with ⟨rfl, h⟩ | ⟨h, ⟨rfl, h2⟩ | ⟨h2, ⟨rfl, h3⟩ | ⟨rfl, h3⟩⟩⟩ <;> rcases q with ⟨rfl, q⟩ | ⟨q, ⟨rfl, q2⟩ | ⟨q2, ⟨rfl, q3⟩ | ⟨rfl, q3⟩⟩⟩ <;> first | rfl | contradiction
theorem pRight {n : Nat} (hn : 1000000 ≤ n) {z : D_A5Zone} (hz : ZoneB z) : Ok (DeRight n (z, ())) (fun v => RightQ n z v.1) := by
  have hz1 := hz.1
  have bad : ¬ (1 ≤ z.1.length ∧ z.1.length ≤ 8 ∧ z.2.1.length = z.1.length) → Ok (DeRight_s1 n (DeRight_s0 n) ((z.1.length : Int), true, z)) (fun v => RightQ n z v.1) := fun h => by
    simp only [DeRight_s1, DeRight_p1, cond_true]
    exact Ok.ret (.inl ⟨rfl, fun q => h q.1⟩)
  have good : (1 ≤ z.1.length ∧ z.1.length ≤ 8 ∧ z.2.1.length = z.1.length) → Ok (DeRight_s1 n (DeRight_s0 n) ((z.1.length : Int), false, z)) (fun v => RightQ n z v.1) := fun hc => by
    have five : fitsAll n z → opens z → Ok (DeRight_s5 n ((z.1.length : Int), z)) (fun v => RightQ n z v.1) := fun hf ho => by
      simp only [DeRight_s5, DeRight_p5, DeRight_s9]
      rw [w64_id (by omega) (by omega)]
      have m := imax_or ((z.1.length : Int) - 2) 0
      generalize imax ((z.1.length : Int) - 2) 0 = K at *
      refine rounds_ok (fun w => ∃ i : Int, w = (K, i, z) ∧ 0 ≤ i ∧ i ≤ K ∧ ∀ j : Int, 0 ≤ j → j < i → endN n z j < endN n z (j + 1)) (fun w => (K - w.2.1).toNat) ?_ n _ ⟨0, rfl, by omega, by omega, fun j a b => by omega⟩ (by show (K - 0).toNat < n; omega)
      rintro rec w ⟨i, rfl, i0, i1, hI⟩ ih
      simp only [DeRight_s10, DeRight_p10, DeRight_s8, DeRight_p8]
      refine Ok.dec (fun hi => ?_) (fun hi => Ok.ret (.inr ⟨hf, .inr ⟨ho, .inr ⟨rfl, fun j a b => hI j a (by have hi : ¬ i < K := hi; omega)⟩⟩⟩))
      have hi : i < K := hi
      rw [w64_id (by omega) (by omega), pEnd hn hz, pEnd hn hz, Option.bind_some, Option.bind_some]
      refine Ok.dec (fun hge => Ok.ret (.inr ⟨hf, .inr ⟨ho, .inl ⟨rfl, fun q => ?_⟩⟩⟩)) (fun hge => ?_)
      · have := q i i0 (by omega)
        have hge : endN n z i ≥ endN n z (i + 1) := hge
        omega
      · have hge : ¬ endN n z i ≥ endN n z (i + 1) := hge
        refine ih _ ⟨i + 1, rfl, by omega, by omega, fun j a b => ?_⟩ (by show (K - (i + 1)).toNat < (K - i).toNat; omega)
        by_cases hji : j = i
        · rw [hji]; omega
        · exact hI j a (by omega)
    have two : fitsAll n z → Ok (DeRight_s2 n ((z.1.length : Int), z)) (fun v => RightQ n z v.1) := fun hf => by
      simp only [DeRight_s2, DeRight_p2, DeRight_s6]
      refine rounds_ok (fun w => ∃ i : Int, w = ((z.1.length : Int), z.1, (z.1.length : Int), i, z) ∧ 0 ≤ i ∧ i ≤ (z.1.length : Int) ∧ ∀ (j : Nat) e, (j : Int) < i → z.1[j]? = some e → e.2.2.2.2.2.1.1 = decide ((j : Int) < (z.1.length : Int) - 1)) (fun w => ((z.1.length : Int) - w.2.2.2.1).toNat) ?_ n _ ⟨0, rfl, by omega, by omega, fun j e h => by omega⟩ (by show ((z.1.length : Int) - 0).toNat < n; omega)
      rintro rec w ⟨i, rfl, i0, i1, hI⟩ ih
      simp only [DeRight_s7, DeRight_p7]
      refine Ok.dec (fun hi => ?_) (fun hi => five hf fun j e he => hI j e (by have := (List.getElem?_eq_some_iff.1 he).1; have hi : ¬ i < (z.1.length : Int) := hi; omega) he)
      refine Ok.dec (fun _ => ?_) (fun h => absurd i0 h)
      refine Ok.bind (Ok.get i0 hi) fun e he => ?_
      have hi : i < (z.1.length : Int) := hi
      rw [w64_id (x := (z.1.length : Int) - 1) (by omega) (by omega), w64_id (x := i + 1) (by omega) (by omega)]
      have hlast : (i == (z.1.length : Int) - 1) = !(decide (i < (z.1.length : Int) - 1)) := by
        rw [Bool.eq_iff_iff, beq_iff_eq, Bool.not_eq_true', decide_eq_false_iff_not]; omega
      rw [hlast]
      refine Ok.bif (fun hb => Ok.ret (.inr ⟨hf, .inl ⟨rfl, fun q => ?_⟩⟩)) (fun hb => ?_)
      · have := q (Int.toNat i) e he.2
        rw [show ((Int.toNat i : Nat) : Int) = i by omega] at this
        rw [this] at hb
        revert hb
        cases decide (i < (z.1.length : Int) - 1) <;> simp
      · refine ih _ ⟨i + 1, rfl, by omega, by omega, fun j e' hj he' => ?_⟩ (by show ((z.1.length : Int) - (i + 1)).toNat < ((z.1.length : Int) - i).toNat; omega)
        by_cases hji : (j : Int) = i
        · rw [show j = Int.toNat i by omega, he.2] at he'
          obtain rfl := Option.some.inj he'
          rw [hji]
          revert hb
          cases e.2.2.2.2.2.1.1 <;> cases decide (i < (z.1.length : Int) - 1) <;> simp
        · exact hI j e' (by omega) he'
    simp only [DeRight_s1, DeRight_p1, cond_false, DeRight_s0, DeRight_p0, DeRight_s3]
    refine rounds_ok (fun w => ∃ i : Int, w = ((z.1.length : Int), z.1, (z.1.length : Int), i, z) ∧ 0 ≤ i ∧ i ≤ (z.1.length : Int) ∧ ∀ (j : Nat) e l, (j : Int) < i → z.1[j]? = some e → z.2.1[j]? = some l → fitP n e l) (fun w => ((z.1.length : Int) - w.2.2.2.1).toNat) ?_ n _ ⟨0, rfl, by omega, by omega, fun j e l h => by omega⟩ (by show ((z.1.length : Int) - 0).toNat < n; omega)
    rintro rec w ⟨i, rfl, i0, i1, hI⟩ ih
    simp only [DeRight_s4, DeRight_p4]
    refine Ok.dec (fun hi => ?_) (fun hi => two ⟨hc, fun j e l he hl => hI j e l (by have := (List.getElem?_eq_some_iff.1 he).1; have hi : ¬ i < (z.1.length : Int) := hi; omega) he hl⟩)
    refine Ok.dec (fun _ => ?_) (fun h => absurd i0 h)
    refine Ok.bind (Ok.get i0 hi) fun e he => Ok.dec (fun _ => ?_) (fun h => absurd i0 h)
    refine Ok.bind (Ok.get i0 (by rw [hc.2.2]; exact hi)) fun l hl => ?_
    refine Ok.bind (pFits hn (hz.2.2.1 e he.1) (hz.2.2.2 l hl.1).1) fun v hv => ?_
    rw [cb_not]
    refine Ok.bif (fun hb => ?_) (fun hb => Ok.ret (.inl ⟨rfl, fun q => ?_⟩))
    · rw [w64_id (by omega) (by omega)]
      refine ih _ ⟨i + 1, rfl, by omega, by omega, fun j e' l' hj he' hl' => ?_⟩ (by show ((z.1.length : Int) - (i + 1)).toNat < ((z.1.length : Int) - i).toNat; omega)
      by_cases hji : (j : Int) = i
      · rw [show j = Int.toNat i by omega] at he' hl'
        rw [he.2] at he'; rw [hl.2] at hl'
        obtain rfl := Option.some.inj he'
        obtain rfl := Option.some.inj hl'
        exact hv.1 hb
      · exact hI j e' l' (by omega) he' hl'
    · rw [hv.2 (q.2 _ e l he.2 hl.2)] at hb; cases hb
  unfold DeRight DeRight_px
  rw [cb_eq]
  by_cases c0 : (z.1.length : Int) = 0
  · rw [if_pos c0]; exact bad (by omega)
  rw [if_neg c0]
  refine Ok.dec (fun h => bad (by have h : (z.1.length : Int) > 8 := h; omega)) (fun h => ?_)
  have h : ¬ (z.1.length : Int) > 8 := h
  by_cases hl : z.2.1.length = z.1.length
  · have : ((z.2.1.length : Int) != (z.1.length : Int)) = false := by simp [hl]
    rw [this]; exact good ⟨by omega, by omega, hl⟩
  · have : ((z.2.1.length : Int) != (z.1.length : Int)) = true := by simp; omega
    rw [this]; exact bad (fun q => hl q.2.2)
theorem rRight15 {n : Nat} (hn : 1000000 ≤ n) {z : D_A5Zone} (hz : ZoneB z) : Ok (A5Right n (z, ())) (fun v => RightQ n z v.1) := by
  have hz1 := hz.1
  have bad : ¬ (1 ≤ z.1.length ∧ z.1.length ≤ 8 ∧ z.2.1.length = z.1.length) → Ok (A5Right_s1 n (A5Right_s0 n) ((z.1.length : Int), true, z)) (fun v => RightQ n z v.1) := fun h => by
    simp only [A5Right_s1, A5Right_p1, cond_true]
    exact Ok.ret (.inl ⟨rfl, fun q => h q.1⟩)
  have good : (1 ≤ z.1.length ∧ z.1.length ≤ 8 ∧ z.2.1.length = z.1.length) → Ok (A5Right_s1 n (A5Right_s0 n) ((z.1.length : Int), false, z)) (fun v => RightQ n z v.1) := fun hc => by
    have five : fitsAll n z → opens z → Ok (A5Right_s8 n ((z.1.length : Int), z)) (fun v => RightQ n z v.1) := fun hf ho => by
      simp only [A5Right_s8, A5Right_p8, A5Right_s15]
      refine rounds_ok (fun w => ∃ i : Int, w = ((z.1.length : Int), i, z) ∧ 1 ≤ i ∧ i ≤ (z.1.length : Int) ∧ ∀ j : Int, 0 ≤ j → j + 1 < i → endN n z j < endN n z (j + 1)) (fun w => ((z.1.length : Int) - w.2.1).toNat) ?_ n _ ⟨1, rfl, by omega, by omega, fun j a b => by omega⟩ (by show ((z.1.length : Int) - 1).toNat < n; omega)
      rintro rec w ⟨i, rfl, i0, i1, hI⟩ ih
      simp only [A5Right_s19, A5Right_p19, A5Right_s14, A5Right_p14]
      rw [w64_id (x := (z.1.length : Int) - 1) (by omega) (by omega)]
      refine Ok.dec (fun hi => ?_) (fun hi => Ok.ret (.inr ⟨hf, .inr ⟨ho, .inr ⟨rfl, fun j a b => hI j a (by have hi : ¬ i < (z.1.length : Int) - 1 := hi; omega)⟩⟩⟩))
      have hi : i < (z.1.length : Int) - 1 := hi
      rw [w64_id (x := i - 1) (by omega) (by omega), rEnd hn hz, rEnd hn hz, Option.bind_some, Option.bind_some]
      refine Ok.dec (fun hge => Ok.ret (.inr ⟨hf, .inr ⟨ho, .inl ⟨rfl, fun q => ?_⟩⟩⟩)) (fun hge => ?_)
      · have := q (i - 1) (by omega) (by omega)
        rw [show i - 1 + 1 = i by omega] at this
        have hge : endN n z i ≤ endN n z (i - 1) := hge
        omega
      · have hge : ¬ endN n z i ≤ endN n z (i - 1) := hge
        rw [w64_id (by omega) (by omega)]
        refine ih _ ⟨i + 1, rfl, by omega, by omega, fun j a b => ?_⟩ (by show ((z.1.length : Int) - (i + 1)).toNat < ((z.1.length : Int) - i).toNat; omega)
        by_cases hji : j = i - 1
        · rw [hji, show i - 1 + 1 = i by omega]; omega
        · exact hI j a (by omega)
    have two : fitsAll n z → Ok (A5Right_s2 n ((z.1.length : Int), z)) (fun v => RightQ n z v.1) := fun hf => by
      simp only [A5Right_s2, A5Right_p2, A5Right_s9]
      refine rounds_ok (fun w => ∃ i : Int, w = ((z.1.length : Int), i, z) ∧ 0 ≤ i ∧ i ≤ (z.1.length : Int) ∧ ∀ (j : Nat) e, (j : Int) < i → z.1[j]? = some e → e.2.2.2.2.2.1.1 = decide ((j : Int) < (z.1.length : Int) - 1)) (fun w => ((z.1.length : Int) - w.2.1).toNat) ?_ n _ ⟨0, rfl, by omega, by omega, fun j e h => by omega⟩ (by show ((z.1.length : Int) - 0).toNat < n; omega)
      rintro rec w ⟨i, rfl, i0, i1, hI⟩ ih
      simp only [A5Right_s12, A5Right_p12]
      refine Ok.dec (fun hi => ?_) (fun hi => five hf fun j e he => hI j e (by have := (List.getElem?_eq_some_iff.1 he).1; have hi : ¬ i < (z.1.length : Int) := hi; omega) he)
      refine Ok.dec (fun _ => ?_) (fun h => absurd i0 h)
      refine Ok.bind (Ok.get i0 hi) fun e he => ?_
      have hi : i < (z.1.length : Int) := hi
      rw [w64_id (x := (z.1.length : Int) - 1) (by omega) (by omega), w64_id (x := i + 1) (by omega) (by omega)]
      refine Ok.bif (fun hb => Ok.ret (.inr ⟨hf, .inl ⟨rfl, fun q => ?_⟩⟩)) (fun hb => ?_)
      · have := q (Int.toNat i) e he.2
        rw [show ((Int.toNat i : Nat) : Int) = i by omega] at this
        rw [this] at hb
        simp at hb
      · refine ih _ ⟨i + 1, rfl, by omega, by omega, fun j e' hj he' => ?_⟩ (by show ((z.1.length : Int) - (i + 1)).toNat < ((z.1.length : Int) - i).toNat; omega)
        by_cases hji : (j : Int) = i
        · rw [show j = Int.toNat i by omega, he.2] at he'
          obtain rfl := Option.some.inj he'
          rw [hji]
          revert hb
          cases e.2.2.2.2.2.1.1 <;> cases decide (i < (z.1.length : Int) - 1) <;> simp
        · exact hI j e' (by omega) he'
    simp only [A5Right_s1, A5Right_p1, cond_false, A5Right_s0, A5Right_p0, A5Right_s3]
    refine rounds_ok (fun w => ∃ i : Int, w = ((z.1.length : Int), i, z) ∧ 0 ≤ i ∧ i ≤ (z.1.length : Int) ∧ ∀ (j : Nat) e l, (j : Int) < i → z.1[j]? = some e → z.2.1[j]? = some l → fitP n e l) (fun w => ((z.1.length : Int) - w.2.1).toNat) ?_ n _ ⟨0, rfl, by omega, by omega, fun j e l h => by omega⟩ (by show ((z.1.length : Int) - 0).toNat < n; omega)
    rintro rec w ⟨i, rfl, i0, i1, hI⟩ ih
    simp only [A5Right_s4, A5Right_p4]
    refine Ok.dec (fun hi => ?_) (fun hi => two ⟨hc, fun j e l he hl => hI j e l (by have := (List.getElem?_eq_some_iff.1 he).1; have hi : ¬ i < (z.1.length : Int) := hi; omega) he hl⟩)
    have hi : i < (z.1.length : Int) := hi
    obtain ⟨e, he⟩ : ∃ e, z.1[Int.toNat i]? = some e := ⟨_, List.getElem?_eq_getElem (show Int.toNat i < z.1.length by omega)⟩
    obtain ⟨l, hl⟩ : ∃ l, z.2.1[Int.toNat i]? = some l := ⟨_, List.getElem?_eq_getElem (show Int.toNat i < z.2.1.length by omega)⟩
    have hE := hz.2.2.1 e (List.mem_of_getElem? he)
    have hL := hz.2.2.2 l (List.mem_of_getElem? hl)
    have hlen := hL.1
    simp only [decide_eq_true i0, cond_true, he, hl, Option.bind_some, rWithin n _ (b := 86400) (by omega) (by omega), cb_not, cb_eq]
    -- the era does not fit
    have no : ¬ fitP n e l → Ok (some ((1 : Int), ()) : Option (Int × Unit)) (fun v => RightQ n z v.1) := fun h => Ok.ret (.inl ⟨rfl, fun q => h (q.2 _ e l he hl)⟩)
    have next : fitP n e l → Ok (A5Right_s5 n (A5Right_s2 n) rec ((z.1.length : Int), i, z)) (fun v => RightQ n z v.1) := fun h => by
      simp only [A5Right_s5, A5Right_p5]
      rw [w64_id (by omega) (by omega)]
      refine ih _ ⟨i + 1, rfl, by omega, by omega, fun j e' l' hj he' hl' => ?_⟩ (by show ((z.1.length : Int) - (i + 1)).toNat < ((z.1.length : Int) - i).toNat; omega)
      by_cases hji : (j : Int) = i
      · rw [show j = Int.toNat i by omega] at he' hl'
        rw [he] at he'; rw [hl] at hl'
        obtain rfl := Option.some.inj he'
        obtain rfl := Option.some.inj hl'
        exact h
      · exact hI j e' l' (by omega) he' hl'
    have seven : Ok (A5Right_s7 n (A5Right_s2 n) rec (A5Right_s5 n (A5Right_s2 n) rec) (A5Right_s6 n (A5Right_s2 n) rec (A5Right_s5 n (A5Right_s2 n) rec)) ((z.1.length : Int), i, true, z, e)) (fun v => RightQ n z v.1) ∨ fitP n e l := by
      by_cases hq : fitP n e l
      · exact .inr hq
      · left
        simp only [A5Right_s7, A5Right_p7, cond_true]
        exact no hq
    have fail : ¬ fitP n e l → Ok (A5Right_s7 n (A5Right_s2 n) rec (A5Right_s5 n (A5Right_s2 n) rec) (A5Right_s6 n (A5Right_s2 n) rec (A5Right_s5 n (A5Right_s2 n) rec)) ((z.1.length : Int), i, true, z, e)) (fun v => RightQ n z v.1) := fun h => seven.resolve_right h
    have ok : (-86400 ≤ e.1 ∧ e.1 ≤ 86400) ∧ (0 ≤ e.2.1 ∧ e.2.1 ≤ 2) ∧ (e.2.1 = 1 → -86400 ≤ e.2.2.1 ∧ e.2.2.1 ≤ 86400) → Ok (A5Right_s7 n (A5Right_s2 n) rec (A5Right_s5 n (A5Right_s2 n) rec) (A5Right_s6 n (A5Right_s2 n) rec (A5Right_s5 n (A5Right_s2 n) rec)) ((z.1.length : Int), i, (decide ((l.length : Int) > 24)), z, e)) (fun v => RightQ n z v.1) := fun hpre => by
      simp only [A5Right_s7, A5Right_p7]
      refine Ok.dec (fun q => absurd q (by show ¬ (l.length : Int) > 24; omega)) (fun _ => ?_)
      -- behind the rules: the until
      have ten : (∀ r, r ∈ l → ruleP r) → Ok (A5Right_s10 n (A5Right_s2 n) rec (A5Right_s5 n (A5Right_s2 n) rec) ((z.1.length : Int), i, z, e)) (fun v => RightQ n z v.1) := fun hrl => by
        simp only [A5Right_s10, A5Right_p10, A5Right_s18, A5Right_p18, cond_true]
        refine Ok.bif (fun hh => ?_) (fun hh => next ⟨hpre.1, hpre.2.1, hpre.2.2, hlen, fun q => (by rw [q] at hh; cases hh), hrl⟩)
        unfold EraB at hE
        obtain ⟨v, hv, _⟩ := eClockU n e.2.2.2.2.2.1 (by omega) (by omega)
        simp only [clock_eq hn, hv, Option.bind_some, rWithin n _ (b := 604799) (by omega) (by omega), cb_not]
        refine Ok.bif (fun hvb => Ok.dec (fun h1 => Ok.dec (fun h2 => no fun q => ?_) (fun h2 => Ok.dec (fun h3 => no fun q => ?_) (fun h3 => next ⟨hpre.1, hpre.2.1, hpre.2.2, hlen, fun _ => ⟨⟨v, hv, hvb⟩, h1, ?_⟩, hrl⟩))) (fun h1 => no fun q => h1 (q.2.2.2.2.1 hh).2.1)) (fun hvb => no fun q => ?_)
        · have h2 : e.2.2.2.2.2.1.2.2.2.2.1.2.1 < 0 := h2
          have := (q.2.2.2.2.1 hh).2.2
          omega
        · have h3 : e.2.2.2.2.2.1.2.2.2.2.1.2.1 > 2 := h3
          have := (q.2.2.2.2.1 hh).2.2
          omega
        · have h2 : ¬ e.2.2.2.2.2.1.2.2.2.2.1.2.1 < 0 := h2
          have h3 : ¬ e.2.2.2.2.2.1.2.2.2.2.1.2.1 > 2 := h3
          omega
        · obtain ⟨⟨w, hw, hwb⟩, _⟩ := q.2.2.2.2.1 hh
          obtain rfl := Option.some.inj (hw.symm.trans hv)
          rw [hvb] at hwb; cases hwb
      simp only [A5Right_s6, A5Right_p6, A5Right_s11]
      refine rounds_ok (fun w => ∃ k : Int, w = ((z.1.length : Int), i, k, z, e) ∧ 0 ≤ k ∧ k ≤ (l.length : Int) ∧ ∀ (j : Nat) r, (j : Int) < k → l[j]? = some r → ruleP r) (fun w => ((l.length : Int) - w.2.2.1).toNat) ?_ n _ ⟨0, rfl, by omega, by omega, fun j r h => by omega⟩ (by show ((l.length : Int) - 0).toNat < n; omega)
      rintro rec2 w ⟨k, rfl, k0, k1, hK⟩ ih2
      simp only [A5Right_s13, A5Right_p13, decide_eq_true i0, cond_true, hl, Option.bind_some]
      refine Ok.dec (fun hk => ?_) (fun hk => ten fun r hr => ?_)
      · refine Ok.dec (fun _ => ?_) (fun h => absurd k0 h)
        refine Ok.bind (Ok.get k0 hk) fun r hr => ?_
        have hk : k < (l.length : Int) := hk
        simp only [rWithin n _ (b := 86400) (by omega) (by omega), rWithin n _ (b := 604799) (by omega) (by omega), Option.bind_some, cb_not, A5Right_s17, A5Right_p17, cond_true, A5Right_s16, A5Right_p16]
        have nor : ¬ ruleP r → Ok (some ((1 : Int), ()) : Option (Int × Unit)) (fun v => RightQ n z v.1) := fun h => no fun q => h (q.2.2.2.2.2 r hr.1)
        refine Ok.dec (fun h1 => Ok.dec (fun h2 => Ok.dec (fun h3 => nor fun q => ?_) (fun h3 => Ok.dec (fun h4 => nor fun q => ?_) (fun h4 => ?_))) (fun h2 => nor fun q => h2 q.2.1)) (fun h1 => nor fun q => h1 q.1)
        · have h3 : r.2.2.2.2.2.1.2.1 < 0 := h3
          have := q.2.2
          omega
        · have h4 : r.2.2.2.2.2.1.2.1 > 2 := h4
          have := q.2.2
          omega
        · have h3 : ¬ r.2.2.2.2.2.1.2.1 < 0 := h3
          have h4 : ¬ r.2.2.2.2.2.1.2.1 > 2 := h4
          rw [w64_id (by omega) (by omega)]
          refine ih2 _ ⟨k + 1, rfl, by omega, by omega, fun j q hj hq => ?_⟩ (by show ((l.length : Int) - (k + 1)).toNat < ((l.length : Int) - k).toNat; omega)
          by_cases hjk : (j : Int) = k
          · rw [show j = Int.toNat k by omega, hr.2] at hq
            obtain rfl := Option.some.inj hq
            exact ⟨h1, h2, by omega, by omega⟩
          · exact hK j q (by omega) hq
      · obtain ⟨j, hj⟩ := List.mem_iff_getElem?.1 hr
        have := (List.getElem?_eq_some_iff.1 hj).1
        have hk : ¬ k < (l.length : Int) := hk
        exact hK j r (by omega) hj
    refine Ok.dec (fun h1 => Ok.dec (fun h2 => fail fun q => ?_) (fun h2 => Ok.dec (fun h3 => fail fun q => ?_) (fun h3 => ?_))) (fun h1 => fail fun q => h1 q.1)
    · have h2 : e.2.1 < 0 := h2
      have := q.2.1; omega
    · have h3 : e.2.1 > 2 := h3
      have := q.2.1; omega
    · have h2 : ¬ e.2.1 < 0 := h2
      have h3 : ¬ e.2.1 > 2 := h3
      by_cases hk : e.2.1 = 1
      · rw [if_pos hk]
        exact Ok.dec (fun h4 => ok ⟨h1, by omega, fun _ => h4⟩) (fun h4 => fail fun q => h4 (q.2.2.1 hk))
      · rw [if_neg hk]
        exact ok ⟨h1, by omega, fun q => absurd q hk⟩
  unfold A5Right A5Right_px
  refine Ok.dec (fun h => bad (by have h : (z.1.length : Int) < 1 := h; omega)) (fun h0 => Ok.dec (fun h => bad (by have h : (z.1.length : Int) > 8 := h; omega)) (fun h => ?_))
  have h0 : ¬ (z.1.length : Int) < 1 := h0
  have h : ¬ (z.1.length : Int) > 8 := h
  by_cases hl : z.2.1.length = z.1.length
  · have : ((z.2.1.length : Int) != (z.1.length : Int)) = false := by simp [hl]
    rw [this]; exact good ⟨by omega, by omega, hl⟩
  · have : ((z.2.1.length : Int) != (z.1.length : Int)) = true := by simp; omega
    rw [this]; exact bad (fun q => hl q.2.2)
end Go.Proofs.YtadamegddcadcaaGreatDoorPi

namespace Go.Proofs.YtadamegddcadcaaGreatDoorPi
open Go
set_option maxRecDepth 100000
set_option maxHeartbeats 1000000
set_option linter.unusedVariables false

theorem rounds_congr {R σ : Type} {f g : (σ → Option R) → σ → Option R} (I : σ → Prop) (h : ∀ r r' z, I z → (∀ z', I z' → r z' = r' z') → f r z = g r' z) : ∀ n z, I z → rounds f n z = rounds g n z
  | 0, _, _ => rfl
  | n + 1, z, hz => h _ _ z hz fun z' hz' => rounds_congr I h n z' hz'
/-- The document's answer at an instant and the program's are one. -/
theorem at_eq {n : Nat} (hn : 1000000 ≤ n) {z : D_A5Zone} (hz : ZoneB z) {t : Int} (h0 : -9223372036854775808 ≤ t) (h1 : t ≤ 9223372036854775807) : A5At n (z, (t, ())) = DeAt n (z, (t, ())) := by
  have hz1 := hz.1
  unfold A5At A5At_px DeAt DeAt_px
  obtain ⟨v, hv, hq⟩ := pRight hn hz
  obtain ⟨w, hw, hk⟩ := rRight15 hn hz
  have e : w.1 = v.1 := hk.uniq hq
  simp only [hv, hw, Option.bind_some, rReach hn h0 h1, e, cb_ne]
  by_cases hv0 : v.1 = 0
  · rw [if_pos hv0, if_pos hv0]
    have hlen : z.2.1.length = z.1.length ∧ 1 ≤ z.1.length := by
      rw [hv0] at hq
      rcases hq with ⟨h, _⟩ | ⟨h, _⟩
      · cases h
      · exact ⟨h.1.2.2, h.1.1⟩
    have loop : A5At_s0 n (t, (0 : Int), z, zState) = DeAt_s0 n (t, (0 : Int), z, zState) := by
      unfold A5At_s0 DeAt_s0
      refine rounds_congr (fun x => ∃ i : Int, x = (t, i, z, zState) ∧ 0 ≤ i ∧ i < (z.1.length : Int)) ?_ n _ ⟨0, rfl, by omega, by omega⟩
      rintro r r' x ⟨i, rfl, i0, i1⟩ ih
      have fin : A5At_s1 n (t, i, z, zState) = DeAt_s1 n (t, i, z, zState) := by
        unfold A5At_s1 A5At_p1 DeAt_s1 DeAt_p1
        obtain ⟨e, he⟩ : ∃ e, z.1[Int.toNat i]? = some e := ⟨_, List.getElem?_eq_getElem (show Int.toNat i < z.1.length by omega)⟩
        obtain ⟨s, hs, hs', _⟩ := zsav_eq hn hz i0 he (.inl (by rw [hlen.1]; exact i1)) h0 h1
        simp only [hs, hs', Option.bind_some]
      simp only [A5At_s2, A5At_p2, DeAt_s2, DeAt_p2]
      rw [w64_id (x := (z.1.length : Int) - 1) (by omega) (by omega), fin]
      by_cases hi : i < (z.1.length : Int) - 1
      · rw [decide_eq_true hi, cond_true, cond_true, pEnd hn hz, rEnd hn hz, Option.bind_some, Option.bind_some, w64_id (x := i + 1) (by omega) (by omega)]
        by_cases ht : t < endN n z i
        · rw [decide_eq_true ht, decide_eq_false (show ¬ endN n z i ≤ t by omega)]; rfl
        · rw [decide_eq_false ht, decide_eq_true (show endN n z i ≤ t by omega), cond_true, cond_false]
          exact ih _ ⟨i + 1, rfl, by omega, by omega⟩
      · rw [decide_eq_false hi]; rfl
    rw [loop]
  · rw [if_neg hv0, if_neg hv0]
theorem i64_range {t : Int} (h : (Lit.int .i64 t).wf = true) : -9223372036854775808 ≤ t ∧ t ≤ 9223372036854775807 := by
  have := (Go.Lit.wf_int_iff .i64 t).1 h
  have e1 : IntKind.min .i64 = -9223372036854775808 := by decide
  have e2 : IntKind.max .i64 = 9223372036854775807 := by decide
  omega
end Go.Proofs.YtadamegddcadcaaGreatDoorPi
