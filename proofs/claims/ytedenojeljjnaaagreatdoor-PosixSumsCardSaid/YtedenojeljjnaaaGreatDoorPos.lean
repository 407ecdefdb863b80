import Derived.Test.YtedenojeljjnaaaGreatDoorCal
set_option linter.unusedVariables false
namespace Go.Proofs.YtedenojeljjnaaaGreatDoorPi
open Go Go.Proofs
set_option maxRecDepth 100000
set_option maxHeartbeats 2000000
set_option linter.unusedVariables false

/-! footers: which are right, and that they tell something -/
def EdgeR (e : D_noonmarkref17_Edge) : Prop :=
  (-604799 ≤ e.2.2.2.2.1 ∧ e.2.2.2.2.1 ≤ 604799) ∧ if e.1 = true then 1 ≤ e.2.1 ∧ e.2.1 ≤ 365 ∧ e.2.2.1 = 0 ∧ e.2.2.2.1 = 0 else 1 ≤ e.2.2.1 ∧ e.2.2.1 ≤ 12 ∧ 1 ≤ e.2.2.2.1 ∧ e.2.2.2.1 ≤ 5 ∧ 0 ≤ e.2.1 ∧ e.2.1 ≤ 6
theorem within_eq (n : Nat) (x a b : Int) : footer_within n (x, (a, (b, ()))) = some (decide (a ≤ x ∧ x ≤ b), ()) := by
  unfold footer_within footer_within_px
  simp only [cb_dec]
  by_cases h : a ≤ x
  · rw [if_pos h]; simp [h]
  · rw [if_neg h]; simp [h]
theorem er1 (n : Nat) (e : D_noonmarkref17_Edge) : ∃ b, footer_Edge_right n (e, ()) = some (b, ()) ∧ (b = true ↔ EdgeR e) := by
  obtain ⟨fx, d, m, w, s, u⟩ := e
  unfold footer_Edge_right footer_Edge_right_px EdgeR
  simp only [within_eq, Option.bind_some, cb_dec, cb_eq]
  cases fx
  · simp only [cond_false, Bool.false_eq_true, if_false]
    repeat' split
    all_goals (refine ⟨_, rfl, ?_⟩; simp; try omega)
  · simp only [cond_true, if_true]
    repeat' split
    all_goals (refine ⟨_, rfl, ?_⟩; simp; try omega)
/-- Has a footer no saving? -/
def noDst (x : D_noonmarkref17_Spec) : Bool := x.2.2.1.toList == (⟨#[]⟩ : ByteArray).toList
theorem right_ok {n : Nat} (hn : 1000000 ≤ n) (x : D_noonmarkref17_Spec) (h1 : x.1.size ≤ 50) (h2 : x.2.2.1.size ≤ 50) :
    ∃ b, footer_Right n (x, ()) = some (b, ()) ∧ (b = true → (-86400 ≤ x.2.1 ∧ x.2.1 ≤ 86400) ∧ (noDst x = false → EdgeR x.2.2.2.2.1 ∧ EdgeR x.2.2.2.2.2.1)) := by
  obtain ⟨b1, e1, f1⟩ := er1 n x.2.2.2.2.1
  obtain ⟨b2, e2, f2⟩ := er1 n x.2.2.2.2.2.1
  unfold footer_Right footer_Right_px noDst
  simp only [plain_val (show x.1.size < n by omega) (by omega), plain_val (show x.2.2.1.size < n by omega) (by omega), within_eq, Option.bind_some, e1, e2]
  generalize (eqD T_noonmarkref17_Spec x _) = q
  cases plainB x.1
  · simp only [cond_false]
    cases x.2.2.1.toList == (⟨#[]⟩ : ByteArray).toList <;> exact ⟨false, rfl, fun h => by cases h⟩
  · simp only [cond_true]
    cases x.2.2.1.toList == (⟨#[]⟩ : ByteArray).toList with
    | true =>
      simp only [cond_true, cb_dec]
      split
      · rename_i h; exact ⟨q, rfl, fun _ => ⟨h, fun h => by cases h⟩⟩
      · exact ⟨false, rfl, fun h => by cases h⟩
    | false =>
      simp only [cond_false, cb_dec]
      split
      · rename_i h
        cases plainB x.2.2.1
        · exact ⟨false, rfl, fun h => by cases h⟩
        · simp only [cond_true]
          split
          · cases b1
            · exact ⟨false, rfl, fun h => by cases h⟩
            · exact ⟨b2, rfl, fun h2 => ⟨h, fun _ => ⟨f1.1 rfl, f2.1 h2⟩⟩⟩
          · exact ⟨false, rfl, fun h => by cases h⟩
      · exact ⟨false, rfl, fun h => by cases h⟩

/-! it answers -/
def An_ {R : Type} (o : Option R) : Prop := Ok o fun _ => True
theorem An_.ret {R : Type} {x : R} : An_ (some x) := ⟨x, rfl, trivial⟩
theorem rt {R : Type} {x : R} : Ok (some x) (fun _ => True) := ⟨x, rfl, trivial⟩
theorem An_.eq {R : Type} {o : Option R} {x : R} (h : o = some x) : An_ o := ⟨x, h, trivial⟩
theorem date_an (n : Nat) (t : Int) : An_ (civil_Date n (t, ())) := by
  by_cases h : t < ydayN (-9999) ∨ ydayN 10000 ≤ t
  · exact .eq (cDate_no n h)
  · obtain ⟨y, m, d, hr, rfl⟩ := exists_day (n := t) (by omega) (by omega)
    exact .eq (cDate_ok n hr)
theorem clock_an (n : Nat) (t : Int) : An_ (civil_Clock n (t, ())) := by
  unfold civil_Clock civil_Clock_px civil_Clock_s0 civil_Clock_p0
  exact .bif (fun _ => rt) (fun _ => rt)
theorem fyear_an (n : Nat) (t : Int) : An_ (footer_year n (t, ())) := by
  unfold footer_year footer_year_px
  refine .bind (clock_an n t) fun v1 _ => .bind (date_an n v1.1) fun v2 _ => .bif (fun _ => ?_) (fun _ => rt)
  rw [within_eq]
  exact rt
theorem ein_an (n : Nat) (e : D_noonmarkref17_Edge) (y : Int) : An_ (footer_Edge_in n (e, (y, ()))) := by
  unfold footer_Edge_in footer_Edge_in_px
  refine .bif (fun _ => ?_) (fun _ => ?_)
  · rw [cDays, Option.bind_some]
    simp only
    rw [cLeap, Option.bind_some]
    refine .bif (fun _ => .dec (fun _ => rt) (fun _ => rt)) (fun _ => rt)
  · unfold footer_Edge_in_s0 footer_Edge_in_p0 footer_Edge_in_s2 footer_Edge_in_p2
    simp only
    rw [cDays, Option.bind_some]
    rw [cWeek, Option.bind_some]
    simp only
    rw [cLong, Option.bind_some]
    exact .dec (fun _ => rt) (fun _ => rt)

/-- What a footer tells at an instant. -/
theorem at_ok {n : Nat} (hn : 1000000 ≤ n) (x : D_noonmarkref17_Spec) (h1 : x.1.size ≤ 50) (h2 : x.2.2.1.size ≤ 50) (t : Int) :
    Ok (footer_At n (x, (t, ()))) (fun r => noDst x = true → r.1.2.1 = false) := by
  obtain ⟨b, hb, _⟩ := right_ok hn x h1 h2
  unfold footer_At footer_At_px
  rw [hb, Option.bind_some]
  refine .bif (fun _ => .ret fun _ => rfl) (fun _ => .bind (fyear_an n t) fun v2 _ => .bif (fun _ => .ret fun _ => rfl) (fun _ => .bif (fun _ => .ret fun _ => rfl) (fun hd => ?_)))
  have hd' : noDst x = false := hd
  unfold footer_At_s1
  refine rounds_ok (fun z => 0 ≤ z.2.2.2.2.2.1 ∧ z.2.2.2.2.2.1 ≤ 4) (fun z => (4 - z.2.2.2.2.2.1).toNat) (fun rec z hI ih => ?_) n _ ⟨by simp, by simp⟩ (by simp; omega)
  obtain ⟨i0, i1⟩ := hI
  have hk3 : ∀ z' : footer_At_t3, z'.2.2.2.2.2.1 = z.2.2.2.2.2.1 → z.2.2.2.2.2.1 < 4 → Ok (footer_At_s3 n (footer_At_s0 n) rec z') (fun r => noDst x = true → r.1.2.1 = false) := fun z' hz hlt => by
    unfold footer_At_s3 footer_At_p3
    rw [hz, w64_id (x := z.2.2.2.2.2.1 + 1) (by omega) (by omega)]
    exact ih _ ⟨by show 0 ≤ z.2.2.2.2.2.1 + 1; omega, by show z.2.2.2.2.2.1 + 1 ≤ 4; omega⟩ (by show (4 - (z.2.2.2.2.2.1 + 1)).toNat < _; omega)
  have hk6 : ∀ z' : footer_At_t6, z'.2.2.2.2.2.1 = z.2.2.2.2.2.1 → z.2.2.2.2.2.1 < 4 → Ok (footer_At_s6 n (footer_At_s0 n) rec (footer_At_s3 n (footer_At_s0 n) rec) z') (fun r => noDst x = true → r.1.2.1 = false) := fun z' hz hlt => by
    unfold footer_At_s6 footer_At_p6
    exact .bif (fun _ => hk3 _ hz hlt) (fun _ => hk3 _ hz hlt)
  have hk4 : ∀ z' : footer_At_t4, z'.2.2.2.2.2.2.1 = z.2.2.2.2.2.1 → z.2.2.2.2.2.1 < 4 → Ok (footer_At_s4 n (footer_At_s0 n) rec (footer_At_s3 n (footer_At_s0 n) rec) z') (fun r => noDst x = true → r.1.2.1 = false) := fun z' hz hlt => by
    unfold footer_At_s4 footer_At_p4
    refine .bind (ein_an n _ _) fun v11 _ => .dec (fun _ => ?_) (fun _ => hk6 _ hz hlt)
    cases hq : z'.2.1 with
    | none => exact hk6 _ hz hlt
    | some q => exact hk6 _ hz hlt
  have hk5 : ∀ z' : footer_At_t5, z'.2.2.2.2.2.2.1 = z.2.2.2.2.2.1 → z.2.2.2.2.2.1 < 4 → Ok (footer_At_s5 n (footer_At_s0 n) rec (footer_At_s3 n (footer_At_s0 n) rec) (footer_At_s4 n (footer_At_s0 n) rec (footer_At_s3 n (footer_At_s0 n) rec)) z') (fun r => noDst x = true → r.1.2.1 = false) := fun z' hz hlt => by
    unfold footer_At_s5 footer_At_p5
    exact .bif (fun _ => hk4 _ hz hlt) (fun _ => hk4 _ hz hlt)
  show Ok (footer_At_s2 n (footer_At_s0 n) rec z) _
  unfold footer_At_s2 footer_At_p2
  refine .dec (fun hlt => .dec (fun h0 => ?_) (fun h => absurd i0 h)) (fun _ => ?_)
  · have hc : Ok ((chain 4 (.int .i64) z.2.2.2.2.1)[Int.toNat z.2.2.2.2.2.1]?) (fun _ => True) := by
      have hl : (chain 4 (.int .i64) z.2.2.2.2.1).length = 4 := rfl
      have : Int.toNat z.2.2.2.2.2.1 < (chain 4 (.int .i64) z.2.2.2.2.1).length := by rw [hl]; omega
      exact ⟨_, List.getElem?_eq_getElem this, trivial⟩
    refine .bind hc fun c7 _ => .bind (ein_an n _ _) fun v8 _ => .dec (fun _ => ?_) (fun _ => hk5 _ rfl hlt)
    cases hq : z.2.1 with
    | none => exact hk5 _ rfl hlt
    | some q => exact hk5 _ rfl hlt
  · unfold footer_At_s0 footer_At_p0
    exact .ret fun h => by rw [hd'] at h; cases h

/-! an edge's day -/
theorem back_loopS {n : Nat} {y m first at0 L : Int} {e : D_noonmarkref17_Edge} (hm : e.2.2.1 = m) (hL : longN y m = L) (hL2 : 28 ≤ L) (ha0 : 0 ≤ at0) (ha1 : at0 ≤ 34) (hn : 1000000 ≤ n) : An_ (posix_number_s0 n (y, (first, (at0, e)))) := by
  unfold posix_number_s0
  obtain ⟨k, rfl⟩ : ∃ k, n = k + 2 := ⟨n - 2, by omega⟩
  have one : ∀ (rec : posix_number_t2 → posix_number_R) (a : Int), 0 ≤ a → a ≤ 34 → posix_number_s2 (k + 2) (posix_number_s1 (k + 2)) rec (y, (first, (a, e))) = if a ≥ L then rec (y, (first, (a - 7, e))) else some (w64 (first + a), ()) := fun rec a h0 h1 => by
    simp only [posix_number_s2, posix_number_p2, posix_number_s1, posix_number_p1, hm]
    rw [cLong, Option.bind_some, hL]
    simp only [cb_dec]
    rw [w64_id (x := a - 7) (by omega) (by omega)]
  show An_ (posix_number_s2 (k + 2) (posix_number_s1 (k + 2)) (rounds _ (k + 1)) (y, (first, (at0, e))))
  rw [one _ at0 ha0 ha1]
  split
  · show An_ (posix_number_s2 (k + 2) (posix_number_s1 (k + 2)) (rounds _ k) (y, (first, (at0 - 7, e))))
    rw [one _ (at0 - 7) (by omega) (by omega), if_neg (by omega)]
    exact rt
  · exact rt
theorem number_an {n : Nat} (hn : 1000000 ≤ n) {e : D_noonmarkref17_Edge} (he : EdgeR e) (y : Int) : An_ (posix_number n (e, (y, ()))) := by
  unfold posix_number posix_number_px
  refine .bif (fun _ => ?_) (fun hf => ?_)
  · refine .bind (P := fun _ => True) ?_ fun v1 _ => by rw [cDays, Option.bind_some]; exact rt
    unfold posix_on posix_on_px
    refine .bif (fun _ => ?_) (fun _ => .bif (fun _ => .ret trivial) (fun _ => .ret trivial))
    rw [cDays, Option.bind_some]
    exact .bind (date_an n _) fun v4 _ => .ret trivial
  · have he2 := he.2
    rw [hf] at he2
    simp only [Bool.false_eq_true, if_false] at he2
    obtain ⟨m0, m1, w0, w1, d0, d1⟩ := he2
    rw [cDays, Option.bind_some]
    rw [cWeek, Option.bind_some]
    generalize (if rightB y _ 1 = true then (_, _) else _ : D_api_At) = v3
    have e1 : w64 (e.2.2.2.1 - 1) = e.2.2.2.1 - 1 := w64_id (by omega) (by omega)
    have e2 : w64 (7 * (e.2.2.2.1 - 1)) = 7 * (e.2.2.2.1 - 1) := w64_id (by omega) (by omega)
    have e3 : w64 (7 + e.2.1) = 7 + e.2.1 := w64_id (by omega) (by omega)
    have e4 : w64 (7 + e.2.1 - (v3.1 + 4) % 7) = 7 + e.2.1 - (v3.1 + 4) % 7 := w64_id (by omega) (by omega)
    have h7 : Int.tmod (7 + e.2.1 - (v3.1 + 4) % 7) 7 = (7 + e.2.1 - (v3.1 + 4) % 7) % 7 := Int.tmod_eq_emod_of_nonneg (by omega)
    have e5 : w64 ((7 + e.2.1 - (v3.1 + 4) % 7) % 7 + 7 * (e.2.2.2.1 - 1)) = (7 + e.2.1 - (v3.1 + 4) % 7) % 7 + 7 * (e.2.2.2.1 - 1) := w64_id (by omega) (by omega)
    simp only
    rw [e1, e2, e3, e4, h7, e5]
    have hl := longN_pos (y := y) m0 m1
    exact back_loopS rfl rfl hl.1 (by omega) (by omega) hn
theorem start_an {n : Nat} (hn : 1000000 ≤ n) {x : D_noonmarkref17_Spec} (he : EdgeR x.2.2.2.2.1) (y : Int) : An_ (posix_spec_start n ((x, ()), (y, ()))) := by
  unfold posix_spec_start posix_spec_start_px
  exact .bind (number_an hn he y) fun _ _ => rt
theorem end_an {n : Nat} (hn : 1000000 ≤ n) {x : D_noonmarkref17_Spec} (he : EdgeR x.2.2.2.2.2.1) (y : Int) : An_ (posix_spec_end n ((x, ()), (y, ()))) := by
  unfold posix_spec_end posix_spec_end_px
  exact .bind (number_an hn he y) fun _ _ => rt
/-- A year's begin. -/
theorem begin_eq {n : Nat} {x : D_noonmarkref17_Spec} (hx : -86400 ≤ x.2.1 ∧ x.2.1 ≤ 86400) {y : Int} (h0 : -9990 ≤ y) (h1 : y ≤ 9990) : posix_spec_begin n ((x, ()), (y, ())) = some (ydayN y * 86400 - x.2.1, ()) := by
  unfold posix_spec_begin posix_spec_begin_px
  have hr : rightB y 1 1 = true := by rw [rightB_iff]; have := longN_pos (y := y) (m := 1) (by omega) (by omega); omega
  have hd : dayN y 1 1 = ydayN y := by unfold dayN cumN; simp
  have hb := dayN_bd hr
  rw [hd] at hb
  rw [cDays, if_pos hr, Option.bind_some, hd]
  simp only
  rw [w64_id (x := ydayN y * 86400) (by omega) (by omega), w64_id (by omega) (by omega)]
end Go.Proofs.YtedenojeljjnaaaGreatDoorPi

namespace Go.Proofs.YtedenojeljjnaaaGreatDoorPi
open Go Go.Proofs
set_option maxRecDepth 100000
set_option maxHeartbeats 2000000
set_option linter.unusedVariables false

/-- What a footer tells, where it answers. -/
def tv (n : Nat) (x : D_noonmarkref17_Spec) (t : Int) : D_api_Local := match footer_At n (x, (t, ())) with
  | some r => r.1
  | none => (0, (false, (⟨#[]⟩, ())))
/-- A footer that is small. -/
def Lt (x : D_noonmarkref17_Spec) : Prop := x.1.size ≤ 50 ∧ x.2.2.1.size ≤ 50
theorem at_eq {n : Nat} (hn : 1000000 ≤ n) {x : D_noonmarkref17_Spec} (hx : Lt x) (t : Int) : ∃ k, footer_At n (x, (t, ())) = some (tv n x t, k) := by
  obtain ⟨r, hr, _⟩ := at_ok hn x hx.1 hx.2 t
  exact ⟨r.2, by unfold tv; rw [hr]⟩
theorem tv_dst {n : Nat} (hn : 1000000 ≤ n) {x : D_noonmarkref17_Spec} (hx : Lt x) (hd : noDst x = true) (t : Int) : (tv n x t).2.1 = false := by
  obtain ⟨r, hr, h⟩ := at_ok hn x hx.1 hx.2 t
  unfold tv; rw [hr]; exact h hd
theorem told_eq {n : Nat} (hn : 1000000 ≤ n) {x : D_noonmarkref17_Spec} (hx : Lt x) (t : Int) : posix_spec_told n ((x, ()), (t, ())) = some (tv n x t, ()) := by
  obtain ⟨k, hk⟩ := at_eq hn hx t
  unfold posix_spec_told posix_spec_told_px
  simp only
  rw [hk]; rfl
/-- Does a footer change at an instant, within some bounds? -/
def keepP (n : Nat) (x : D_noonmarkref17_Spec) (a b e : Int) : Bool := decide (e ≥ a) && (decide (e < b) && !(eqD T_api_Local (tv n x (w64 (e - 1))) (tv n x e)))

theorem y_loop {n : Nat} (hn : 1000000 ≤ n) {x : D_noonmarkref17_Spec} (hx : Lt x) (a b : Int) (l : List Int) (hl : l.length ≤ 1000) :
    posix_Yearly_s4 n (posix_Yearly_s3 n) (a, (b, (l, ((l.length : Int), (0, (x, (x, ()))))))) = some (l.filter (keepP n x a b), ((0 : Int), ())) := by
  unfold posix_Yearly_s4
  have h := rounds_eq (R := _) (f := fun r5 x' => posix_Yearly_s5 n (posix_Yearly_s3 n) r5 x') (G := fun z => some (z.2.2.2.2.2.2.2 ++ (l.drop z.2.2.2.2.1.toNat).filter (keepP n x a b), ((0 : Int), ())))
    (fun z => ∃ (i : Nat) (out : List Int), i ≤ l.length ∧ out.length ≤ i ∧ z = (a, (b, (l, ((l.length : Int), ((i : Int), (x, ((x, ()), out)))))))) (fun z => l.length - z.2.2.2.2.1.toNat) (fun rec z hI ih => ?_) n (a, (b, (l, ((l.length : Int), (0, (x, ((x, ()), []))))))) ⟨0, [], by omega, by simp, rfl⟩ (by show l.length - 0 < n; omega)
  · refine h.trans ?_
    simp
  · obtain ⟨i, out, hi, ho, rfl⟩ := hI
    show posix_Yearly_s5 n (posix_Yearly_s3 n) rec _ = _
    unfold posix_Yearly_s5 posix_Yearly_p5
    simp only
    by_cases hlt : i < l.length
    · rw [cb_dec, if_pos (by omega), cb_dec, if_pos (by omega), Int.toNat_natCast, List.getElem?_eq_getElem hlt, Option.bind_some]
      have hdrop : l.drop i = l[i] :: l.drop (i + 1) := List.drop_eq_getElem_cons hlt
      have hk6 : ∀ out' : List Int, out'.length ≤ i + 1 → posix_Yearly_s6 n (posix_Yearly_s3 n) rec (a, (b, (l, ((l.length : Int), ((i : Int), (x, ((x, ()), out'))))))) = some (out' ++ (l.drop (i + 1)).filter (keepP n x a b), ((0 : Int), ())) := fun out' ho' => by
        unfold posix_Yearly_s6 posix_Yearly_p6
        simp only
        rw [w64_id (x := (i : Int) + 1) (by omega) (by omega)]
        rw [ih _ ⟨i + 1, out', by omega, ho', by simp⟩ (by simp; omega)]
        simp
      have hk7 : ∀ c : Bool, c = keepP n x a b l[i] → posix_Yearly_s7 n (posix_Yearly_s3 n) rec (posix_Yearly_s6 n (posix_Yearly_s3 n) rec) (a, (b, (l[i], (l, ((l.length : Int), ((i : Int), (c, (x, ((x, ()), out))))))))) = some (out ++ (l.drop i).filter (keepP n x a b), ((0 : Int), ())) := fun c hc => by
        unfold posix_Yearly_s7 posix_Yearly_p7
        simp only
        rw [hdrop, List.filter_cons]
        cases c with
        | true =>
          rw [cond_true, cb_dec, if_pos (by simp; omega), hk6 _ (by simp; omega), ← hc]
          simp
        | false =>
          rw [cond_false, hk6 _ (by omega), ← hc]
          simp
      unfold keepP at hk7
      rw [cb_dec]
      by_cases ha : l[i] ≥ a
      · rw [if_pos ha, cb_dec]
        by_cases hb : l[i] < b
        · rw [if_pos hb]
          rw [told_eq hn hx, Option.bind_some]
          rw [told_eq hn hx, Option.bind_some]
          refine (hk7 _ ?_).trans (by unfold keepP; rfl)
          simp [ha, hb]
        · rw [if_neg hb]
          refine (hk7 _ ?_).trans (by unfold keepP; rfl)
          simp [hb]
      · rw [if_neg ha]
        refine (hk7 _ ?_).trans (by unfold keepP; rfl)
        simp [ha]
    · have hil : i = l.length := by omega
      rw [cb_dec, if_neg (by omega)]
      subst hil
      show posix_Yearly_s3 n (x, ((x, ()), out)) = _
      unfold posix_Yearly_s3 posix_Yearly_p3
      simp

/-- A list that rises, once each, rises. -/
theorem compact_lt {zs : List Int} (h : zs.Pairwise (fun x y => x ≤ y)) : (Lib.compact zs).Pairwise (fun x y => x < y) := by
  unfold Lib.compact Lib.compactUpTo
  rw [List.pairwise_map]
  have hr : (List.range zs.length).Pairwise (fun i j => i < j ∧ j < zs.length) := by
    rw [List.pairwise_iff_getElem]
    intro i j hi hj hij
    simp at hi hj ⊢
    omega
  rw [List.pairwise_filter]
  refine hr.imp fun {i j} ⟨hij, hj⟩ _ hk => ?_
  have e : ∀ k, k < zs.length → zs.toArray[k]! = zs.getD k 0 := fun k hk => by
    rw [getElem!_pos zs.toArray k (by simpa using hk)]
    simp [List.getD_eq_getElem?_getD, hk]
  unfold Lib.keeps at hk
  have hk' : zs.toArray[j]! ≠ zs.toArray[j - 1]! := by
    have := of_decide_eq_true hk
    omega
  rw [e j hj, e (j - 1) (by omega)] at hk'
  rw [e i (by omega), e j hj]
  have le : ∀ p q, p < q → q < zs.length → zs.getD p 0 ≤ zs.getD q 0 := fun p q hpq hq => by
    have := List.pairwise_iff_getElem.1 h p q (by omega) hq hpq
    simpa [List.getD_eq_getElem?_getD, hq, show p < zs.length by omega] using this
  have h1 := le (j - 1) j (by omega) hj
  have h2 : zs.getD i 0 ≤ zs.getD (j - 1) 0 := by
    by_cases hh : i = j - 1
    · rw [hh]; exact Int.le_refl _
    · exact le i (j - 1) (by omega) (by omega)
  omega
theorem sort_le (zs : List Int) : (zs.mergeSort fun x y => decide (x ≤ y)).Pairwise (fun x y => x ≤ y) := by
  have := List.pairwise_mergeSort (le := fun x y : Int => decide (x ≤ y)) (fun a b c => by simp; omega) (fun a b => by simp; omega) zs
  exact this.imp fun h => of_decide_eq_true h
theorem compact_len (zs : List Int) : (Lib.compact zs).length ≤ zs.length := by
  unfold Lib.compact Lib.compactUpTo
  rw [List.length_map]
  exact Nat.le_trans (List.length_filter_le _ _) (by simp)

/-- What Yearly answers. -/
def YP (n : Nat) (x : D_noonmarkref17_Spec) (y : Int) (l : List Int) : Prop :=
  (∀ e ∈ l, ydayN y * 86400 - x.2.1 ≤ e ∧ e < ydayN (y + 1) * 86400 - x.2.1 ∧ eqD T_api_Local (tv n x (w64 (e - 1))) (tv n x e) = false) ∧ l.Pairwise (fun a b => a < b) ∧ (noDst x = true → l = []) ∧ l.length ≤ 100
theorem yearly_ok {n : Nat} (hn : 1000000 ≤ n) {x : D_noonmarkref17_Spec} (hx : Lt x) (y : Int) :
    Ok (posix_Yearly n (x, (y, ()))) (fun r => (r.2.1 ≠ 0 ∧ r.1 = []) ∨ (r.2.1 = 0 ∧ (-9000 ≤ y ∧ y ≤ 9000) ∧ (-86400 ≤ x.2.1 ∧ x.2.1 ≤ 86400) ∧ YP n x y r.1)) := by
  obtain ⟨b, hb, hr⟩ := right_ok hn x hx.1 hx.2
  unfold posix_Yearly posix_Yearly_px
  rw [hb, Option.bind_some]
  refine .bif (fun _ => .ret (.inl ⟨by decide, rfl⟩)) fun hbt => .dec (fun _ => .ret (.inl ⟨by decide, rfl⟩)) fun hy0 => .dec (fun _ => .ret (.inl ⟨by decide, rfl⟩)) fun hy1 => ?_
  obtain ⟨hoff, hed⟩ := hr (by simpa using hbt)
  have hy0' : -9000 ≤ y := by simpa using hy0
  have hy1' : y ≤ 9000 := by simpa using hy1
  refine .bif (fun hd => .ret (.inr ⟨rfl, ⟨hy0', hy1'⟩, hoff, ⟨fun e he => (by cases he), List.Pairwise.nil, fun _ => rfl, by simp⟩⟩)) fun hd => ?_
  have hd' : noDst x = false := hd
  obtain ⟨e1, e2⟩ := hed hd'
  unfold posix_Yearly_s1
  simp only
  rw [w64_id (x := y - 2) (by omega) (by omega)]
  refine rounds_ok (fun z => ∃ (i : Nat) (out : List Int), i ≤ 5 ∧ out.length ≤ 2 * i ∧ z = (y, (y - 2 + i, (x, ((x, ()), out))))) (fun z => (y + 3 - z.2.1).toNat) (fun rec z hI ih => ?_) n _ ⟨0, [], by omega, by simp, by simp⟩ (by simp; omega)
  obtain ⟨i, out, hi, ho, rfl⟩ := hI
  show Ok (posix_Yearly_s2 n (posix_Yearly_s0 n) rec _) _
  unfold posix_Yearly_s2 posix_Yearly_p2
  simp only
  rw [w64_id (x := y + 2) (by omega) (by omega)]
  refine .dec (fun hle => ?_) fun hle => ?_
  · refine .bind (start_an hn e1 _) fun v4 _ => .bind (end_an hn e2 _) fun v5 _ => .dec (fun _ => ?_) (fun h => absurd (by simp; omega) h)
    rw [w64_id (x := y - 2 + (i : Int) + 1) (by omega) (by omega)]
    exact ih _ ⟨i + 1, out ++ (v4.1 :: v5.1 :: []), by omega, by simp; omega, by simp; omega⟩ (by simp; omega)
  · unfold posix_Yearly_s0 posix_Yearly_p0
    have hs : sortF n out () = some (out.mergeSort fun x y => decide (x ≤ y)) := by unfold sortF; rw [if_pos (by omega)]
    simp only
    rw [hs, Option.bind_some]
    rw [begin_eq hoff (by omega) (by omega), Option.bind_some]
    rw [w64_id (x := y + 1) (by omega) (by omega), begin_eq hoff (by omega) (by omega), Option.bind_some]
    have hsl : (out.mergeSort fun x y => decide (x ≤ y)).length = out.length := List.length_mergeSort ..
    have hc : compF n ((out.mergeSort fun x y => decide (x ≤ y)), ()) ((), ()) = some (((out.mergeSort fun x y => decide (x ≤ y)), ()), (Lib.compact (out.mergeSort fun x y => decide (x ≤ y)), ())) := by
      unfold compF
      rw [cb_dec, if_pos (by simp only [hsl]; omega)]
    rw [hc, Option.bind_some]
    have hcl := compact_len (out.mergeSort fun x y => decide (x ≤ y))
    rw [hsl] at hcl
    simp only
    rw [y_loop hn hx _ _ _ (by omega)]
    refine .ret (.inr ⟨rfl, ⟨hy0', hy1'⟩, hoff, ⟨fun e he => ?_, (compact_lt (sort_le out)).filter _, fun h => (by rw [hd'] at h; cases h), Nat.le_trans (List.length_filter_le _ _) (by omega)⟩⟩)
    obtain ⟨_, hk⟩ := List.mem_filter.1 he
    unfold keepP at hk
    simp only [Bool.and_eq_true, decide_eq_true_eq, Bool.not_eq_true'] at hk
    exact ⟨hk.1, hk.2.1, hk.2.2⟩
end Go.Proofs.YtedenojeljjnaaaGreatDoorPi

namespace Go.Proofs.YtedenojeljjnaaaGreatDoorPi
open Go Go.Proofs
set_option maxRecDepth 100000
set_option maxHeartbeats 2000000
set_option linter.unusedVariables false

/-- One more stretch of a year. -/
theorem hours1_ok {n : Nat} (hn : 1000000 ≤ n) {x : D_noonmarkref17_Spec} (hx : Lt x) (from_ dst std to : Int) (h0 : 0 ≤ dst) (h1 : 0 ≤ std) (hb : dst + std ≤ 10000000000) (hf0 : -10000000000000 ≤ from_) (hf1 : from_ ≤ to) (ht : to ≤ from_ + 10000000000) (hd : noDst x = true → dst = 0) (u : Unit × (Unit × (Unit × (Unit × Unit)))) :
    ∃ d' s', posix_Hours_1 n ((x, ()), (from_, (dst, (std, ())))) (to, u) = some (((x, ()), (to, (d', (s', ())))), ()) ∧ 0 ≤ d' ∧ 0 ≤ s' ∧ d' + s' = dst + std + (to - from_) ∧ (noDst x = true → d' = 0) := by
  unfold posix_Hours_1 posix_Hours_1_px posix_Hours_1_s0 posix_Hours_1_p0
  simp only
  rw [told_eq hn hx, Option.bind_some]
  simp only
  rw [w64_id (x := to - from_) (by omega) (by omega)]
  cases hc : (tv n x from_).2.1 with
  | true =>
    rw [cond_true, w64_id (x := dst + (to - from_)) (by omega) (by omega)]
    exact ⟨_, _, rfl, by omega, h1, by omega, fun h => by rw [tv_dst hn hx h] at hc; cases hc⟩
  | false =>
    rw [cond_false, w64_id (x := std + (to - from_)) (by omega) (by omega)]
    exact ⟨_, _, rfl, h0, by omega, by omega, hd⟩

theorem yday_year (y : Int) : ydayN (y + 1) - ydayN y = if leapB y = true then 366 else 365 := by
  rw [ydayN_succ]; split <;> omega

/-- What Hours answers. -/
theorem hours_ok {n : Nat} (hn : 1000000 ≤ n) {x : D_noonmarkref17_Spec} (hx : Lt x) (y : Int) :
    ∃ l k, posix_Yearly n (x, (y, ())) = some (l, (k, ())) ∧ ((k ≠ 0 ∧ l = [] ∧ posix_Hours n (x, (y, ())) = some (0, (0, (k, ())))) ∨
      (k = 0 ∧ YP n x y l ∧ ∃ a b, posix_Hours n (x, (y, ())) = some (a, (b, (0, ()))) ∧ 0 ≤ a ∧ 0 ≤ b ∧ a + b = (if leapB y = true then 366 else 365) * 86400 ∧ (noDst x = true → b = 0))) := by
  obtain ⟨⟨l, k, _⟩, hy, hc⟩ := yearly_ok hn hx y
  refine ⟨l, k, hy, ?_⟩
  rcases hc with ⟨hk, hl⟩ | ⟨hk, ⟨hy0, hy1⟩, hoff, hP⟩
  · refine .inl ⟨hk, hl, ?_⟩
    unfold posix_Hours posix_Hours_px
    simp only
    rw [hy, Option.bind_some, cb_ne, if_neg hk]
  · have hk : k = 0 := hk
    subst hk
    have hP : YP n x y l := hP
    refine .inr ⟨rfl, hP, ?_⟩
    have hyr := yday_year y
    have hyb : -5000000 ≤ ydayN y ∧ ydayN y ≤ 5000000 := by unfold ydayN; omega
    have hsp : ydayN (y + 1) - ydayN y = 365 ∨ ydayN (y + 1) - ydayN y = 366 := by rw [hyr]; split <;> simp
    unfold posix_Hours posix_Hours_px
    simp only
    rw [hy, Option.bind_some, cb_ne, if_pos rfl]
    rw [begin_eq hoff (by omega) (by omega), Option.bind_some]
    obtain ⟨he, hpw, hd, hlen⟩ := hP
    unfold posix_Hours_s1
    simp only
    have key : Ok (rounds (fun r2 x' => posix_Hours_s2 n (posix_Hours_s0 n) r2 x') n (y, (((), ((), ((), ((), ())))), ((l.length : Int), (0, (x, (0, (0, (l, ((x, ()), ydayN y * 86400 - x.2.1))))))))))
        (fun r => ∃ a b, r = (a, (b, (0, ()))) ∧ 0 ≤ a ∧ 0 ≤ b ∧ a + b = (if leapB y = true then 366 else 365) * 86400 ∧ (noDst x = true → b = 0)) := by
      refine rounds_ok (fun z => ∃ (i : Nat) (a b f : Int), i ≤ l.length ∧ 0 ≤ a ∧ 0 ≤ b ∧ a + b = f - (ydayN y * 86400 - x.2.1) ∧ (noDst x = true → b = 0) ∧ f < ydayN (y + 1) * 86400 - x.2.1 ∧ (∀ e ∈ l.drop i, f ≤ e) ∧ z = (y, (((), ((), ((), ((), ())))), ((l.length : Int), ((i : Int), (x, (a, (b, (l, ((x, ()), f))))))))))
        (fun z => l.length - z.2.2.2.1.toNat) (fun rec z hI ih => ?_) n _ ⟨0, 0, 0, ydayN y * 86400 - x.2.1, by omega, by omega, by omega, by omega, fun _ => rfl, by omega, fun e hel => (he e (by simpa using hel)).1, rfl⟩ (by show l.length - 0 < n; omega)
      obtain ⟨i, a, b, f, hi, ha, hb, hab, hbd, hfu, hfe, rfl⟩ := hI
      show Ok (posix_Hours_s2 n (posix_Hours_s0 n) rec _) _
      unfold posix_Hours_s2 posix_Hours_p2
      simp only
      by_cases hlt : i < l.length
      · have hdrop : l.drop i = l[i] :: l.drop (i + 1) := List.drop_eq_getElem_cons hlt
        have hel := he l[i] (List.getElem_mem hlt)
        have hfl : f ≤ l[i] := hfe _ (by rw [hdrop]; exact List.mem_cons_self)
        rw [cb_dec, if_pos (by omega), cb_dec, if_pos (by omega), Int.toNat_natCast, List.getElem?_eq_getElem hlt, Option.bind_some]
        obtain ⟨d', s', hh, q1, q2, q3, q4⟩ := hours1_ok hn hx f b a l[i] hb ha (by omega) (by omega) hfl (by omega) hbd ((), ((), ((), ((), ()))))
        rw [hh, Option.bind_some]
        simp only
        rw [w64_id (x := (i : Int) + 1) (by omega) (by omega)]
        refine ih _ ⟨i + 1, s', d', l[i], by omega, q2, q1, by omega, q4, hel.2.1, fun e hm => ?_, by simp⟩ (by simp; omega)
        have hpd : (l.drop i).Pairwise (fun a b => a < b) := hpw.sublist (List.drop_sublist _ _)
        rw [hdrop] at hpd
        exact Int.le_of_lt (List.rel_of_pairwise_cons hpd hm)
      · rw [cb_dec, if_neg (by omega)]
        show Ok (posix_Hours_s0 n (y, (((), ((), ((), ((), ())))), (x, (a, (b, (l, ((x, ()), f)))))))) _
        unfold posix_Hours_s0 posix_Hours_p0
        simp only
        rw [w64_id (x := y + 1) (by omega) (by omega), begin_eq hoff (by omega) (by omega), Option.bind_some]
        obtain ⟨d', s', hh, q1, q2, q3, q4⟩ := hours1_ok hn hx f b a (ydayN (y + 1) * 86400 - x.2.1) hb ha (by omega) (by omega) (by omega) (by omega) hbd ((), ((), ((), ((), ()))))
        simp only
        rw [hh, Option.bind_some]
        refine .ret ⟨s', d', rfl, q2, q1, ?_, q4⟩
        have : ydayN (y + 1) * 86400 - x.2.1 - (ydayN y * 86400 - x.2.1) = (ydayN (y + 1) - ydayN y) * 86400 := by omega
        rw [← hyr]; omega
    obtain ⟨r, hr, a, b, rfl, h⟩ := key
    exact ⟨a, b, hr, h⟩

theorem own_id (n : Nat) (x : D_noonmarkref17_Spec) : noonmarklaw17_Own n (x, ()) = some (x, ()) := rfl
theorem light_eq (n : Nat) (x : D_noonmarkref17_Spec) : noonmarklaw26_light n (x, ()) = some (decide (x.1.size ≤ 50 ∧ x.2.2.1.size ≤ 50), ()) := by
  unfold noonmarklaw26_light noonmarklaw26_light_px
  simp only [cb_dec]
  by_cases h : (x.1.size : Int) ≤ 50
  · rw [if_pos h]
    simp only [Option.some.injEq, Prod.mk.injEq, and_true]
    rw [decide_eq_decide]; omega
  · rw [if_neg h]
    simp only [Option.some.injEq, Prod.mk.injEq, and_true]
    symm; rw [decide_eq_false_iff_not]; omega
theorem sums_fin {n : Nat} {x : D_noonmarkref17_Spec} {a b w : Int} {l : List Int} (ha : 0 ≤ a) (hb : 0 ≤ b) (hw : w = 365 ∨ w = 366) (hab : a + b = w * 86400) (hd : noDst x = true → l = [] ∧ b = 0) :
    noonmarklaw26_PosixSums_s1 n (a, (b, (w, (x, l)))) = some (true, ()) := by
  unfold noonmarklaw26_PosixSums_s1 noonmarklaw26_PosixSums_p1
  simp only
  rw [cb_dec, if_pos ha, cb_dec, if_pos hb, w64_id (x := a + b) (by omega) (by omega), w64_id (x := w * 86400) (by omega) (by omega), cb_eq, if_pos hab]
  cases hq : noDst x with
  | false =>
    unfold noDst at hq
    rw [hq]; rfl
  | true =>
    obtain ⟨rfl, rfl⟩ := hd hq
    unfold noDst at hq
    rw [hq]; rfl
theorem posixSums_good {n : Nat} (hn : 1000000 ≤ n) (x : D_noonmarkref17_Spec × (Int × Unit)) : noonmarklaw26_PosixSums n x = some (true, ()) := by
  obtain ⟨x, y, u⟩ := x
  unfold noonmarklaw26_PosixSums noonmarklaw26_PosixSums_px
  simp only
  rw [light_eq, Option.bind_some]
  by_cases hx : x.1.size ≤ 50 ∧ x.2.2.1.size ≤ 50
  · rw [decide_eq_true hx]
    simp only [Bool.not_true, cond_false, own_id, Option.bind_some]
    obtain ⟨l, k, hy, hc⟩ := hours_ok hn hx y
    rcases hc with ⟨hk, rfl, hh⟩ | ⟨rfl, hP, a, b, hh, ha, hb, hab, hbd⟩
    · rw [hh, Option.bind_some]
      simp only
      rw [hy, Option.bind_some, cb_ne, if_neg hk, cb_eq, if_pos rfl]
      rfl
    · rw [hh, Option.bind_some]
      simp only
      rw [hy, Option.bind_some, cb_ne, if_pos rfl, cLeap, Option.bind_some]
      obtain ⟨he, hpw, hd, hlen⟩ := hP
      have key : ∀ w : Int, w = (if leapB y = true then 366 else 365) → noonmarklaw26_PosixSums_s0 n (a, (b, (w, (x, l)))) = some (true, ()) := fun w hw => by
        have hw2 : w = 365 ∨ w = 366 := by rw [hw]; split <;> simp
        have hfin := sums_fin (n := n) (x := x) (l := l) ha hb hw2 (by rw [hw]; exact hab) (fun h => ⟨hd h, hbd h⟩)
        unfold noonmarklaw26_PosixSums_s0 noonmarklaw26_PosixSums_p0 noonmarklaw26_PosixSums_s2
        simp only
        refine rounds_eq (R := _) (f := fun r3 x' => noonmarklaw26_PosixSums_s3 n (noonmarklaw26_PosixSums_s1 n) r3 x') (G := fun _ => some (true, ())) (fun z => ∃ (i : Nat), i ≤ l.length ∧ z = (a, (b, (w, ((i : Int), (x, l)))))) (fun z => l.length - z.2.2.2.1.toNat) (fun rec z hI ih => ?_) n _ ⟨0, by omega, rfl⟩ (by show l.length - 0 < n; omega)
        obtain ⟨i, hi, rfl⟩ := hI
        show noonmarklaw26_PosixSums_s3 n (noonmarklaw26_PosixSums_s1 n) rec _ = _
        unfold noonmarklaw26_PosixSums_s3 noonmarklaw26_PosixSums_p3
        simp only
        by_cases hlt : i < l.length
        · have hel := he l[i] (List.getElem_mem hlt)
          obtain ⟨k1, hk1⟩ := at_eq hn hx (w64 (l[i] - 1))
          obtain ⟨k2, hk2⟩ := at_eq hn hx l[i]
          have hk5 : noonmarklaw26_PosixSums_s5 n (noonmarklaw26_PosixSums_s1 n) rec (noonmarklaw26_PosixSums_s4 n (noonmarklaw26_PosixSums_s1 n) rec) (a, (b, (w, ((i : Int), (false, (x, l)))))) = some (true, ()) := by
            unfold noonmarklaw26_PosixSums_s5 noonmarklaw26_PosixSums_p5 noonmarklaw26_PosixSums_s4 noonmarklaw26_PosixSums_p4
            simp only [cond_false]
            rw [w64_id (x := (i : Int) + 1) (by omega) (by omega)]
            exact ih _ ⟨i + 1, by omega, by simp⟩ (by simp; omega)
          rw [cb_dec, if_pos (by omega)]
          simp only [own_id, Option.bind_some]
          have hg : (decide (0 ≤ (i : Int) ∧ (i : Int) < (l.length : Int))) = true := by simp; exact hlt
          simp only [hg, cond_true, Int.toNat_natCast, List.getElem?_eq_getElem hlt, Option.bind_some, hk1, hk2, hel.2.2, cond_false]
          rw [cb_dec]
          split
          · rename_i hpos
            rw [w64_id (x := (i : Int) - 1) (by omega) (by omega)]
            have h1 : i - 1 < l.length := by omega
            have hg2 : (decide (0 ≤ (i : Int) - 1 ∧ (i : Int) - 1 < (l.length : Int))) = true := by simp; omega
            have e1 : ((i : Int) - 1).toNat = i - 1 := by omega
            have hlt2 := List.pairwise_iff_getElem.1 hpw (i - 1) i h1 hlt (by omega)
            simp only [hg2, cond_true, e1, List.getElem?_eq_getElem h1, Option.bind_some]
            have : (decide (l[i - 1] ≥ l[i])) = false := by simp; omega
            rw [this]; exact hk5
          · exact hk5
        · rw [cb_dec, if_neg (by omega)]
          exact hfin
      cases hl : leapB y with
      | true => rw [cond_true]; exact key 366 (by rw [hl]; rfl)
      | false => rw [cond_false]; exact key 365 (by rw [hl]; rfl)
  · rw [decide_eq_false hx]
    rfl
theorem posixSums_law (x : D_noonmarkref17_Spec × (Int × Unit)) : noonmarklaw26_PosixSums 1000000 x = some (true, ()) := posixSums_good (Nat.le_refl _) x
end Go.Proofs.YtedenojeljjnaaaGreatDoorPi
