import Derived.Test.YtadamegddcadcaaGreatDoorPiA
import Derived.KernelRfl
import Derived.WideShapes
import Derived.ChangeShapes
import Derived.ChangeArms
import Derived.ReadAgain
set_option linter.unusedVariables false
namespace Go.Proofs.YtadamegddcadcaaGreatDoorPi
open Go
section
variable {R : Type} {P : Program}

theorem tupAt_ok {E : Env} : ∀ (t : Ty) (x : t.den) (i : Nat) (tv : TV) (vs : List Value), tupAt t x i = some tv → vals E t x vs → ∃ v, vs[i]? = some v ∧ VRep E tv.t tv.x v
  | .pair a b, x, 0, tv, vs, h, hv => by
    obtain ⟨v, vs', rfl, h1, h2⟩ := hv
    obtain rfl := Option.some.inj h
    exact ⟨v, rfl, h1⟩
  | .pair a b, x, i + 1, tv, vs, h, hv => by
    obtain ⟨v, vs', rfl, h1, h2⟩ := hv
    obtain ⟨v', e, r⟩ := tupAt_ok b x.2 i tv vs' h h2
    exact ⟨v', by simpa using e, r⟩
  | .unit, _, _, _, _, h, _ | .bool, _, _, _, _, h, _ | .int _, _, _, _, _, h, _ | .str, _, _, _, _, h, _ | .list _, _, _, _, _, h, _ | .nl _, _, _, _, _, h, _ | .opt _, _, _, _, _, h, _ | .ep _ _ _ _, _, _, _, _, h, _ | .sl _ _, _, _, _, _, h, _ | .ref _, _, _, _, _, h, _ | .ptr _ _ _, _, _, _, _, h, _ | .fn _ _ _, _, _, _, _, h, _ => by simp [tupAt] at h

theorem reads_mem {o : Oper} {x : Operand} (hx : x ∈ o.op.operands) : ∀ u, x = .tmp u → u ∈ reads o := fun u e => by
  subst e
  exact List.mem_filterMap.2 ⟨.tmp u, by simpa using hx, rfl⟩

theorem bd_ok {a : Act} {v : Option Int} {o : Option Operand} (h : (o = none ∧ v = none) ∨ ∃ x k n, o = some x ∧ v = some n ∧ a.eval x = .int k n) : Bd v (o.map a.eval) := by
  rcases h with ⟨rfl, rfl⟩ | ⟨x, k, n, rfl, rfl, e⟩
  · exact .inl ⟨rfl, rfl⟩
  · exact .inr ⟨k, n, rfl, by rw [Option.map_some, e]⟩

theorem tvsOf_ok {st : St} {X : Nat → Prop} {E : Env} {a : Act} {w : World} (hf : FR X E st a.tmps w) : ∀ (xs : List Operand) (tv : TV), (∀ x ∈ xs, ∀ u, x = .tmp u → X u) → tvsOf st xs = some tv → ∃ bs, rep E tv.t tv.x bs ∧ unflat tv.t bs = xs.map a.eval
  | [], _, _, h => by simp only [tvsOf, Option.some.injEq] at h; subst h; exact ⟨[], rfl, rfl⟩
  | x :: xs, tv, hX, h => by
    simp only [tvsOf] at h
    split at h
    · rename_i a1 b1 h1 h2
      obtain rfl := Option.some.inj h
      obtain ⟨cs, r1, e1⟩ := opd_ok hf (hX x (by simp)) h1
      obtain ⟨bs, r2, e2⟩ := tvsOf_ok hf xs b1 (fun z hz => hX z (by simp [hz])) h2
      refine ⟨cs ++ bs, ⟨cs, bs, rfl, r1, r2⟩, ?_⟩
      have hl := rep_length _ _ _ r1
      show mkV a1.t ((cs ++ bs).take a1.t.size) :: unflat b1.t ((cs ++ bs).drop a1.t.size) = _
      rw [← hl, List.take_left, List.drop_left, e2, List.map_cons, e1]
    · cases h

theorem pureK_ok {C : Ctx} {sp : Specs} (hsp : ∀ g s, sp g = some s → SoundX P C g s) {n : Nat} {st : St} {o : Oper} {K : Slot → Option R} {r : R} (h : pureK P sp n st o K = some r) :
    ∃ s, K s = some r ∧ OpOK P C o st s := by
  have hR : ∀ {x : Operand}, x ∈ o.op.operands → ∀ u, x = .tmp u → u ∈ reads o := fun hx => reads_mem hx
  have mv : ∀ x, o.op = .move x ∨ o.op = .assign x → (match slotOf st x with
    | some s => K s
    | none => match opdN P o.type st x with
      | some tv => K (.v tv)
      | none => match opdX P o.type st x with
        | some tv => K (.v tv)
        | none => none) = some r → ∃ s, K s = some r ∧ OpOK P C o st s := by
    intro x hx h
    have hop : ∀ a : Act, execOp a.eval o = pure (.value (a.eval x)) := fun a => by
      unfold execOp
      rcases hx with hx | hx <;> simp only [hx]
    have hm : x ∈ o.op.operands := by rcases hx with hx | hx <;> simp [hx, Op.operands]
    split at h
    · rename_i s hs
      exact ⟨s, h, .of_pure fun E a w hf => ⟨a.eval x, by rw [hop]; rfl, slotOf_ok hf (hR hm) hs⟩⟩
    · split at h
      · rename_i tv htv
        exact ⟨_, h, .of_pure fun E a w hf => ⟨a.eval x, by rw [hop]; rfl, opdN_ok hf (hR hm) htv⟩⟩
      · split at h
        · rename_i tv htv
          exact ⟨_, h, .of_pure fun E a w hf => ⟨a.eval x, by rw [hop]; rfl, opdX_ok hf (hR hm) htv⟩⟩
        · cases h
  unfold pureK at h
  split at h
  · rename_i x hx; exact mv x (.inl hx) h
  · rename_i x hx; exact mv x (.inr hx) h
  · rename_i c y z ho
    split at h
    · rename_i b s s' hc hs hs'
      have h1 : ∀ a : Act, a.eval c = .bool b → ∀ w, (execOp a.eval o).run P w = .ok (.value (if b then a.eval y else a.eval z)) w := fun a e w => by
        unfold execOp
        simp only [ho, e, asBool, Sem.run_bind, Sem.run_pure, Result.andThen_ok]
      have hdef : ∀ {s : Slot}, defK s K = some r → K s = some r := fun {s} h => by
        unfold defK at h
        split at h
        · cases h
        · exact h
      rcases bif_some h with ⟨hb, h⟩ | ⟨hb, h⟩
      · refine ⟨s, hdef h, .of_pure fun E a w hf => ⟨a.eval y, ?_, slotOf_ok hf (hR (by simp [ho, Op.operands])) hs⟩⟩
        rw [h1 a (vrep_bool (opd_ok hf (hR (by simp [ho, Op.operands])) hc)) w, hb]; rfl
      · refine ⟨s', hdef h, .of_pure fun E a w hf => ⟨a.eval z, ?_, slotOf_ok hf (hR (by simp [ho, Op.operands])) hs'⟩⟩
        rw [h1 a (vrep_bool (opd_ok hf (hR (by simp [ho, Op.operands])) hc)) w, hb]; rfl
    · cases h
  · rename_i op ty x y yt ho
    split at h
    · rename_i hnil
      split at h
      · rename_i va ha
        obtain ⟨s, hs, hv⟩ := nilK_ok h
        refine ⟨s, hs, .of_pure fun E a w hf => ?_⟩
        obtain ⟨v, hrun, hr⟩ := hv E w x y _ (opd_ok hf (hR (by simp [ho, Op.operands])) ha)
        refine ⟨v, ?_, hr⟩
        have hy : a.eval y = .pointer none := by
          unfold nilPtr at hnil
          split at hnil
          · rfl
          · cases hnil
        unfold execOp
        simp only [ho, hy]
        rw [Sem.run_bind, hrun]; rfl
      · cases h
    · -- two values
      split at h
      · rename_i va vb ha hb
        split at h
        · obtain ⟨s, hs, hv⟩ := eqAgg_ok h
          refine ⟨s, hs, .of_pure fun E a w hf => ?_⟩
          obtain ⟨v, hrun, hr⟩ := hv E w x y _ _ (opd_ok hf (hR (by simp [ho, Op.operands])) ha) (opd_ok hf (hR (by simp [ho, Op.operands])) hb)
          refine ⟨v, ?_, hr⟩
          unfold execOp
          simp only [ho]
          rw [Sem.run_bind, hrun]; rfl
        · obtain ⟨s, hs, hv⟩ := binB_ok h
          refine ⟨s, hs, .of_pure fun E a w hf => ?_⟩
          obtain ⟨v, hrun, hr⟩ := hv E w x y _ _ (opd_ok hf (hR (by simp [ho, Op.operands])) ha) (opd_ok hf (hR (by simp [ho, Op.operands])) hb)
          refine ⟨v, ?_, hr⟩
          unfold execOp
          simp only [ho]
          rw [Sem.run_bind, hrun]; rfl
      · split at h
        · rename_i va vb ha hb
          obtain ⟨s, hs, hv⟩ := eqAgg_ok h
          refine ⟨s, hs, .of_pure fun E a w hf => ?_⟩
          obtain ⟨v, hrun, hr⟩ := hv E w x y _ _ (opdX_ok hf (hR (by simp [ho, Op.operands])) ha) (opdX_ok hf (hR (by simp [ho, Op.operands])) hb)
          refine ⟨v, ?_, hr⟩
          unfold execOp
          simp only [ho]
          rw [Sem.run_bind, hrun]; rfl
        · cases h
  · rename_i op ty x ho
    split at h
    · rename_i va ha
      obtain ⟨s, hs, hv⟩ := unK_ok h
      refine ⟨s, hs, .of_pure fun E a w hf => ?_⟩
      obtain ⟨v, hrun, hr⟩ := hv P E w _ (opd_ok hf (hR (by simp [ho, Op.operands])) ha)
      refine ⟨v, ?_, hr⟩
      unfold execOp
      simp only [ho]
      rw [Sem.run_bind, hrun]; rfl
    · cases h
  · rename_i src dst x ho
    split at h
    · rename_i va ha
      obtain ⟨s, hs, hv⟩ := convK_ok h
      refine ⟨s, hs, .of_val fun E a w hf => ?_⟩
      obtain ⟨v, m', w', hrun, hc, hi, hr⟩ := hv C E w _ hf.inv (opd_ok hf (hR (by simp [ho, Op.operands])) ha)
      refine ⟨v, m', w', ?_, hc, hi, hr⟩
      unfold execOp
      simp only [ho]
      rw [Sem.run_bind, hrun]; rfl
    · cases h
  · rename_i ty x lo hi ho
    split at h
    · rename_i va l q ha hl hq
      obtain ⟨s, hs, hv⟩ := sliceK_ok h
      refine ⟨s, hs, .of_pure fun E a w hf => ?_⟩
      obtain ⟨v, hrun, hr⟩ := hv E w _ (lo.map a.eval) (hi.map a.eval) (opd_ok hf (hR (by simp [ho, Op.operands])) ha)
        (bd_ok (intOpt_ok hf (fun z hz => hR (by simp [ho, Op.operands, hz])) hl)) (bd_ok (intOpt_ok hf (fun z hz => hR (by simp [ho, Op.operands, hz])) hq))
      refine ⟨v, ?_, hr⟩
      unfold execOp
      simp only [ho]
      rw [Sem.run_bind]
      show Result.andThen ((Instr.sliceAt ty (a.eval x) (lo.map a.eval) (hi.map a.eval) none).run P w) _ = _
      rw [hrun]; rfl
    · cases h
  · rename_i ty x ho
    split at h
    · rename_i va ha
      obtain ⟨s, hs, hv⟩ := loadK_ok h
      refine ⟨s, hs, .of_pure fun E a w hf => ?_⟩
      obtain ⟨v, hrun, hr⟩ := hv _ E _ w _ hf (opd_ok hf (hR (by simp [ho, Op.operands])) ha)
      refine ⟨v, ?_, hr⟩
      unfold execOp
      simp only [ho]
      rw [Sem.run_bind, hrun]; rfl
    · cases h
  · rename_i ty x f ho
    split at h
    · rename_i va ha
      obtain ⟨s, hs, hv⟩ := fieldAddrK_ok h
      refine ⟨s, hs, .of_pure fun E a w hf => ?_⟩
      obtain ⟨v, hrun, hr⟩ := hv E w _ (opd_ok hf (hR (by simp [ho, Op.operands])) ha)
      refine ⟨v, ?_, hr⟩
      unfold execOp
      simp only [ho]
      rw [Sem.run_bind, hrun]; rfl
    · cases h
  · rename_i ty x f ho
    split at h
    · rename_i va ha
      obtain ⟨s, hs, hv⟩ := fieldK_ok h
      refine ⟨s, hs, .of_pure fun E a w hf => ?_⟩
      obtain ⟨v, hrun, hr⟩ := hv E w _ (opd_ok hf (hR (by simp [ho, Op.operands])) ha)
      refine ⟨v, ?_, hr⟩
      unfold execOp
      simp only [ho]
      rw [Sem.run_bind, hrun]; rfl
    · cases h
  · rename_i ty x i ho
    split at h
    · rename_i va vb ha hb
      obtain ⟨s, hs, hv⟩ := indexK_ok h
      refine ⟨s, hs, .of_pure fun E a w hf => ?_⟩
      obtain ⟨v, hrun, hr⟩ := hv E w _ _ (opd_ok hf (hR (by simp [ho, Op.operands])) ha) (opd_ok hf (hR (by simp [ho, Op.operands])) hb)
      refine ⟨v, ?_, hr⟩
      unfold execOp
      simp only [ho]
      rw [Sem.run_bind, hrun]; rfl
    · cases h
  · rename_i ty x i ho
    split at h
    · rename_i k t kk m ha hb
      obtain ⟨s, hs, hv⟩ := indexSlK_ok h
      refine ⟨s, hs, .of_pure fun E a w hf => ?_⟩
      obtain ⟨v, hrun, hr⟩ := hv _ E _ w _ kk hf (opd_ok hf (hR (by simp [ho, Op.operands])) ha)
      refine ⟨v, ?_, hr⟩
      have hi := vrep_int (opd_ok hf (hR (by simp [ho, Op.operands])) hb)
      unfold execOp
      simp only [ho, hi]
      rw [Sem.run_bind, hrun]; rfl
    · rename_i va vb _ ha hb
      obtain ⟨s, hs, hv⟩ := indexAddrK_ok h
      refine ⟨s, hs, .of_pure fun E a w hf => ?_⟩
      obtain ⟨v, hrun, hr⟩ := hv E w _ _ (opd_ok hf (hR (by simp [ho, Op.operands])) ha) (opd_ok hf (hR (by simp [ho, Op.operands])) hb)
      refine ⟨v, ?_, hr⟩
      unfold execOp
      simp only [ho]
      rw [Sem.run_bind, hrun]; rfl
    · cases h
  · rename_i x i ho
    split at h
    · rename_i t y hy
      split at h
      · rename_i tv htv
        refine ⟨_, h, .of_pure fun E a w hf => ?_⟩
        obtain ⟨vs, hvs, hev⟩ := slotOf_ok hf (hR (by simp [ho, Op.operands])) hy
        obtain ⟨v, hv, hr⟩ := tupAt_ok _ _ _ _ _ htv hvs
        refine ⟨v, ?_, hr⟩
        unfold execOp
        simp only [ho, hev]
        rw [Sem.run_bind]
        have : (Instr.extract (.tuple vs.toArray) i).run P w = .ok v w := by
          unfold Instr.extract
          simp [hv]
        rw [this]; rfl
      · cases h
    · cases h
  · rename_i ty parts ho
    obtain ⟨s, hs, hv⟩ := buildK_ok h
    refine ⟨s, hs, .of_pure fun E a w hf => ?_⟩
    obtain ⟨v, hrun, hr⟩ := hv _ E a w hf (fun p hp u e => hR (by simp only [ho, Op.operands]; exact List.mem_toArray.2 (List.mem_map.2 ⟨p, hp, rfl⟩)) u e)
    refine ⟨v, ?_, hr⟩
    unfold execOp
    simp only [ho]
    rw [Sem.run_bind, hrun]; rfl
  · rename_i ty len parts ho
    obtain ⟨s, hs, hv⟩ := buildSliceK_ok h
    refine ⟨s, hs, .of_val fun E a w hf => ?_⟩
    obtain ⟨v, m', w', hrun, hc, hi, hr⟩ := hv C _ E a w hf (fun p hp u e => hR (by simp only [ho, Op.operands]; exact List.mem_toArray.2 (List.mem_map.2 ⟨p, hp, rfl⟩)) u e)
    refine ⟨v, m', w', ?_, hc, hi, hr⟩
    unfold execOp
    simp only [ho]
    rw [Sem.run_bind, hrun]; rfl
  · rename_i x ho
    split at h
    · rename_i i q t y ha
      refine ⟨_, h, .of_pure fun E a w hf => ?_⟩
      have hv := opd_ok hf (hR (by simp [ho, Op.operands])) ha
      obtain ⟨b, hb, e⟩ := vrep_ptr hv
      refine ⟨a.eval x, ?_, hv⟩
      unfold execOp
      simp only [ho, e]; rfl
    · rename_i t y ha
      refine ⟨_, h, .of_pure fun E a w hf => ?_⟩
      have hv := opd_ok hf (hR (by simp [ho, Op.operands])) ha
      obtain ⟨b, c, e, _⟩ := vrep_ref hv
      refine ⟨a.eval x, ?_, hv⟩
      unfold execOp
      simp only [ho, e]; rfl
    · rename_i k o' e' t y ha
      refine ⟨_, h, .of_pure fun E a w hf => ?_⟩
      have hv := opd_ok hf (hR (by simp [ho, Op.operands])) ha
      obtain ⟨b, hb, e⟩ := vrep_ep hv
      refine ⟨a.eval x, ?_, hv⟩
      unfold execOp
      simp only [ho, e]; rfl
    · rename_i t y ha
      obtain ⟨z, hz, h⟩ := bind_some h
      refine ⟨_, h, .of_pure fun E a w hf => ?_⟩
      have hv := opd_ok hf (hR (by simp [ho, Op.operands])) ha
      rcases vrep_opt hv with ⟨e1, _⟩ | ⟨z', ad, c, e1, e, hr, hw⟩
      · have : (none : Option t.den) = some z := e1.symm.trans hz
        cases this
      · have : some z' = some z := e1.symm.trans hz
        obtain rfl := Option.some.inj this
        refine ⟨a.eval x, ?_, [.pointer (some ad)], ⟨ad, c, rfl, hr, hw⟩, e⟩
        unfold execOp
        simp only [ho, e]; rfl
    · cases h
  · rename_i c ho
    exact callK_ok hsp ho h
  · rename_i g first captured ho
    split at h
    · rename_i tv htv
      refine ⟨_, h, .of_pure fun E a w hf => ?_⟩
      obtain ⟨bs, hbs, hu⟩ := tvsOf_ok hf _ tv (fun x hx => hR (by simp only [ho, Op.operands]; simpa using hx)) htv
      refine ⟨.func (.func g) (first.map a.eval) (captured.map a.eval), ?_, [_], ⟨bs, hbs, rfl⟩, ?_⟩
      · unfold execOp
        simp only [ho]; rfl
      · rw [hu]
        show _ = Value.func (.func g) _ _
        have e1 : ((first.toList ++ captured.toList).map a.eval).take first.size = first.toList.map a.eval := by
          rw [List.map_append, List.take_append_of_le_length (by simp), List.take_of_length_le (by simp)]
        have e2 : ((first.toList ++ captured.toList).map a.eval).drop first.size = captured.toList.map a.eval := by
          rw [List.map_append, List.drop_append_of_le_length (by simp), List.drop_of_length_le (by simp), List.nil_append]
        rw [e1, e2]
        congr 1 <;> (apply Array.ext'; simp)
    · cases h
  · cases h
end
end Go.Proofs.YtadamegddcadcaaGreatDoorPi

namespace Go.Proofs.YtadamegddcadcaaGreatDoorPi
open Go

/-- A frame's state, seen from its begin (m0, w0). -/
structure GR (C : Ctx) (m0 : Mem) (w0 : World) (E : Env) (st : St) (tmps : Array Value) (w : World) : Prop where
  fr : FR (fun _ => True) E st tmps w
  chg : Chg C m0 w0 E.m w
  own : ∀ i b, E.β i = some b → w0.heap.size ≤ b
  lt : ∀ i b, E.β i = some b → b < w.heap.size
  top : ∀ i, st.b.length ≤ i → E.β i = none ∧ E.τ i = none
  gl : C.Γ E.m

section
variable {P : Program} {C : Ctx} {m0 : Mem} {w0 : World} {E : Env} {st : St} {a : Act} {w : World}

theorem FR.put {X : Nat → Prop} {tmps : Array Value} (h : FR X E st tmps w) (d : Option Tmp) {s : Slot} {v : Value} (hs : SlotRep E s v) (a : Act) (ha : a.tmps = tmps) : FR X E (st.put d s) (a.put d v).tmps w := by
  subst ha
  cases d with
  | none => exact h
  | some d =>
    refine ⟨?_, ?_, h.boxes, h.arrs, h.inj, h.inv⟩
    · show (st.t.set d s).length = (a.tmps.setIfInBounds d v).size
      rw [List.length_set, Array.size_setIfInBounds, h.len]
    · intro i q hi hq
      have hq' : (st.t.set d s)[i]? = some q := hq
      show SlotRep E q ((a.tmps.setIfInBounds d v).getD i undef)
      rw [List.getElem?_set] at hq'
      by_cases hd : d = i
      · subst hd
        rw [if_pos rfl] at hq'
        split at hq'
        · rename_i hlt
          obtain rfl := Option.some.inj hq'
          have : d < a.tmps.size := by rw [← h.len]; exact hlt
          simp [this]; exact hs
        · cases hq'
      · rw [if_neg hd] at hq'
        have := h.slots i q hi hq'
        rw [Array.getD_eq_getD_getElem?] at this ⊢
        rw [Array.getElem?_setIfInBounds_ne hd]
        exact this

theorem GR.of_chg {v : Value} {s : Slot} {m' : Mem} {w' : World} (h : GR C m0 w0 E st a.tmps w) (hc : Chg C E.m w m' w') (hi : Inv m' w') (hs : SlotRep { E with m := m' } s v) (d : Option Tmp) :
    GR C m0 w0 { E with m := m' } (st.put d s) (a.put d v).tmps w' :=
  ⟨(h.fr.chg hc hi).put d hs a rfl, h.chg.trans hc (fun _ _ q => q), h.own, fun i b hb => Nat.lt_of_lt_of_le (h.lt i b hb) hc.size, fun i hi' => h.top i (by cases d <;> exact hi'), C.mono (hc.sub h.fr.inv) h.gl⟩

def StepOK (P : Program) (C : Ctx) (o : Oper) (st st' : St) : Prop :=
  ∀ (m0 : Mem) (w0 : World) (E : Env) (a : Act) (w : World) (Kc : Act → World → Prop) (Q : Exit → Act → World → Prop), GR C m0 w0 E st a.tmps w →
    (∀ v E' w', GR C m0 w0 E' st' (a.put o.dst v).tmps w' → Kc (a.put o.dst v) w') → o.wp P a w Kc Q

theorem OpOK.step {o : Oper} {s : Slot} (h : OpOK P C o st s) : StepOK P C o st (st.put o.dst s) := fun _ _ E a w Kc Q hg hk =>
  h E a w Kc Q (hg.fr.weaken fun _ _ => trivial) hg.gl fun v m' w' hc hi hs => hk v { E with m := m' } w' (hg.of_chg hc hi hs o.dst)

theorem push_chg {C : Ctx} {m : Mem} {w : World} (o : Obj) : Chg C m w m { w with heap := w.heap.push o } := ⟨rfl, rfl, rfl, fun _ => Nat.le_refl _, by simp, fun b hb _ => by
    show (w.heap.push _)[b]? = _
    rw [Array.getElem?_push, if_neg (by omega)], fun _ _ => rfl⟩
theorem chg_inv {X : Nat → Prop} {C : Ctx} {m : Mem} {w w' : World} (hc : ChgX X C m w m w') (hx : ∀ b j v, m b j = some v → ¬ X b) (hi : Inv m w) : Inv m w' := fun b j v hv => by
  have h1 := hi b j v hv
  have hlt := cell_lt h1
  unfold World.cell? at h1 ⊢
  rw [hc.heap b hlt (hx b j v hv)]; exact h1
/-- A new box: its block, if it has one, is new; its head, if it has one, is new. -/
theorem GR.new {bx : Bx} {nβ : Option Nat} {nτ : Option Value} {w' : World} {tmps : Array Value} (h : GR C m0 w0 E st tmps w) (hc : Chg C E.m w E.m w')
    (hβ : ∀ b, nβ = some b → b = w.heap.size ∧ b < w'.heap.size)
    (hok : ∀ E', E.le E' → E'.m = E.m → E'.β st.b.length = nβ → E'.τ st.b.length = nτ → (∀ j, E.m w.heap.size j = none) → (match bx with | .one tv => OneOK E' w' st.b.length tv | .arr e t xs => ArrOK E' w' st.b.length e t xs)) :
    ∃ E', E.le E' ∧ E'.β st.b.length = nβ ∧ E'.τ st.b.length = nτ ∧ GR C m0 w0 E' { st with b := st.b ++ [some bx] } tmps w' := by
  have hi : Inv E.m w' := chg_inv hc (fun _ _ _ _ => id) h.fr.inv
  have hf := h.fr.chg hc hi
  let E' : Env := { E with β := fun i => if i = st.b.length then nβ else E.β i, τ := fun i => if i = st.b.length then nτ else E.τ i }
  have hle : E.le E' := ⟨fun _ _ _ h => h, fun i b hb => by
    show (if i = st.b.length then _ else _) = _
    rw [if_neg (fun hh => by rw [(h.top i (by omega)).1] at hb; cases hb)]; exact hb, fun i b hb => by
    show (if i = st.b.length then _ else _) = _
    rw [if_neg (fun hh => by rw [(h.top i (by omega)).2] at hb; cases hb)]; exact hb⟩
  have hnone : ∀ j, E.m w.heap.size j = none := fun j => by
    cases hm : E.m w.heap.size j with
    | none => rfl
    | some v => exact absurd (cell_lt (h.fr.inv _ _ _ hm)) (Nat.lt_irrefl _)
  have e1 : E'.β st.b.length = nβ := by show (if _ then _ else _) = _; rw [if_pos rfl]
  have e2 : E'.τ st.b.length = nτ := by show (if _ then _ else _) = _; rw [if_pos rfl]
  have e3 : ∀ i, i ≠ st.b.length → E'.β i = E.β i := fun i hi => by show (if _ then _ else _) = _; rw [if_neg hi]
  have hinj : ∀ i j b, E'.β i = some b → E'.β j = some b → i = j := fun i j b hbi hbj => by
    by_cases i1 : i = st.b.length <;> by_cases j1 : j = st.b.length
    · omega
    · rw [i1, e1] at hbi; rw [e3 j j1] at hbj
      have := (hβ _ hbi).1
      exact absurd (h.lt _ _ hbj) (by omega)
    · rw [e3 i i1] at hbi; rw [j1, e1] at hbj
      have := (hβ _ hbj).1
      exact absurd (h.lt _ _ hbi) (by omega)
    · rw [e3 i i1] at hbi; rw [e3 j j1] at hbj
      exact h.fr.inj i j b hbi hbj
  have hnew := hok E' hle rfl e1 e2 hnone
  have at_ : ∀ i (c : Bx), (st.b ++ [some bx])[i]? = some (some c) → (i < st.b.length ∧ st.b[i]? = some (some c)) ∨ (i = st.b.length ∧ c = bx) := fun i c hc' => by
    by_cases hlt : i < st.b.length
    · rw [List.getElem?_append_left hlt] at hc'; exact .inl ⟨hlt, hc'⟩
    · rw [List.getElem?_append_right (by omega)] at hc'
      have hi0 : i - st.b.length = 0 := by
        have := (List.getElem?_eq_some_iff.1 hc').1
        simp at this; omega
      rw [hi0] at hc'
      simp only [List.getElem?_cons_zero, Option.some.injEq] at hc'
      exact .inr ⟨by omega, hc'.symm⟩
  have heap_old : ∀ i b, E.β i = some b → w'.heap[b]? = w.heap[b]? ∧ E'.m b = E.m b := fun i b hb => ⟨hc.heap b (h.lt i b hb) id, rfl⟩
  refine ⟨E', hle, e1, e2, ⟨hf.len, fun i s hi' hs => (h.fr.slots i s hi' hs).mono hle, fun i t ht => ?_, fun i e t xs ht => ?_, fun i j b hbi hbj => hinj i j b hbi hbj, hi⟩, h.chg.trans hc (fun _ _ q => q), fun i b hb => ?_, fun i b hb => ?_, fun i hi' => ?_, h.gl⟩
  · rcases at_ i _ ht with ⟨_, h1⟩ | ⟨h1, rfl⟩
    · exact (h.fr.boxes i t h1).keep hle (heap_old i)
    · rw [h1]; exact hnew
  · rcases at_ i _ ht with ⟨h0, h1⟩ | ⟨h1, rfl⟩
    · exact (h.fr.arrs i e t xs h1).keep hle (e3 i (by omega)) (heap_old i)
    · rw [h1]; exact hnew
  · by_cases i1 : i = st.b.length
    · rw [i1, e1] at hb; rw [(hβ _ hb).1]; exact h.chg.size
    · rw [e3 i i1] at hb; exact h.own i b hb
  · by_cases i1 : i = st.b.length
    · rw [i1, e1] at hb; exact (hβ _ hb).2
    · rw [e3 i i1] at hb; exact Nat.lt_of_lt_of_le (h.lt i b hb) hc.size
  · have hl : st.b.length + 1 ≤ i := by simpa using hi'
    have hne : i ≠ st.b.length := by omega
    refine ⟨by rw [e3 i hne]; exact (h.top i (by omega)).1, ?_⟩
    show (if i = st.b.length then _ else _) = _
    rw [if_neg hne]; exact (h.top i (by omega)).2

theorem GR.newG {bx : Bx} {nβ : Option Nat} {nτ : Option Value} {m' : Mem} {w' : World} {tmps : Array Value} (h : GR C m0 w0 E st tmps w) (hc : Chg C E.m w m' w') (hi : Inv m' w')
    (hβ : ∀ b, nβ = some b → w.heap.size ≤ b ∧ b < w'.heap.size)
    (hok : ∀ E', ({ E with m := m' } : Env).le E' → E'.m = m' → E'.β st.b.length = nβ → E'.τ st.b.length = nτ → (match bx with | .one tv => OneOK E' w' st.b.length tv | .arr e t xs => ArrOK E' w' st.b.length e t xs)) :
    ∃ E', ({ E with m := m' } : Env).le E' ∧ E'.β st.b.length = nβ ∧ E'.τ st.b.length = nτ ∧ GR C m0 w0 E' { st with b := st.b ++ [some bx] } tmps w' := by
  have hf := h.fr.chg hc hi
  let E' : Env := { m := m', β := fun i => if i = st.b.length then nβ else E.β i, τ := fun i => if i = st.b.length then nτ else E.τ i }
  have hle : ({ E with m := m' } : Env).le E' := ⟨fun _ _ _ h => h, fun i b hb => by
    show (if i = st.b.length then _ else _) = _
    rw [if_neg (fun hh => by rw [(h.top i (by omega)).1] at hb; cases hb)]; exact hb, fun i b hb => by
    show (if i = st.b.length then _ else _) = _
    rw [if_neg (fun hh => by rw [(h.top i (by omega)).2] at hb; cases hb)]; exact hb⟩
  have e1 : E'.β st.b.length = nβ := by show (if _ then _ else _) = _; rw [if_pos rfl]
  have e2 : E'.τ st.b.length = nτ := by show (if _ then _ else _) = _; rw [if_pos rfl]
  have e3 : ∀ i, i ≠ st.b.length → E'.β i = E.β i := fun i hi => by show (if _ then _ else _) = _; rw [if_neg hi]
  have hinj : ∀ i j b, E'.β i = some b → E'.β j = some b → i = j := fun i j b hbi hbj => by
    by_cases i1 : i = st.b.length <;> by_cases j1 : j = st.b.length
    · omega
    · rw [i1, e1] at hbi; rw [e3 j j1] at hbj
      have := (hβ _ hbi).1
      exact absurd (h.lt _ _ hbj) (by omega)
    · rw [e3 i i1] at hbi; rw [j1, e1] at hbj
      have := (hβ _ hbj).1
      exact absurd (h.lt _ _ hbi) (by omega)
    · rw [e3 i i1] at hbi; rw [e3 j j1] at hbj
      exact h.fr.inj i j b hbi hbj
  have hnew := hok E' hle rfl e1 e2
  have hle0 : E.le E' := ⟨fun b j v hv => hle.m b j v (hc.sub h.fr.inv b j v hv), hle.β, hle.τ⟩
  have at_ : ∀ i (c : Bx), (st.b ++ [some bx])[i]? = some (some c) → (i < st.b.length ∧ st.b[i]? = some (some c)) ∨ (i = st.b.length ∧ c = bx) := fun i c hc' => by
    by_cases hlt : i < st.b.length
    · rw [List.getElem?_append_left hlt] at hc'; exact .inl ⟨hlt, hc'⟩
    · rw [List.getElem?_append_right (by omega)] at hc'
      have hi0 : i - st.b.length = 0 := by
        have := (List.getElem?_eq_some_iff.1 hc').1
        simp at this; omega
      rw [hi0] at hc'
      simp only [List.getElem?_cons_zero, Option.some.injEq] at hc'
      exact .inr ⟨by omega, hc'.symm⟩
  have heap_old : ∀ i b, E.β i = some b → w'.heap[b]? = w.heap[b]? ∧ E'.m b = E.m b := fun i b hb => ⟨hc.heap b (h.lt i b hb) id, hc.mem b (h.lt i b hb)⟩
  refine ⟨E', hle, e1, e2, ⟨hf.len, fun i s hi' hs => (h.fr.slots i s hi' hs).mono hle0, fun i t ht => ?_, fun i e t xs ht => ?_, fun i j b hbi hbj => hinj i j b hbi hbj, hi⟩, h.chg.trans hc (fun _ _ q => q), fun i b hb => ?_, fun i b hb => ?_, fun i hi' => ?_, C.mono (hc.sub h.fr.inv) h.gl⟩
  · rcases at_ i _ ht with ⟨_, h1⟩ | ⟨h1, rfl⟩
    · exact (h.fr.boxes i t h1).keep hle0 (heap_old i)
    · rw [h1]; exact hnew
  · rcases at_ i _ ht with ⟨h0, h1⟩ | ⟨h1, rfl⟩
    · exact (h.fr.arrs i e t xs h1).keep hle0 (e3 i (by omega)) (heap_old i)
    · rw [h1]; exact hnew
  · by_cases i1 : i = st.b.length
    · rw [i1, e1] at hb; exact Nat.le_trans h.chg.size (hβ _ hb).1
    · rw [e3 i i1] at hb; exact h.own i b hb
  · by_cases i1 : i = st.b.length
    · rw [i1, e1] at hb; exact (hβ _ hb).2
    · rw [e3 i i1] at hb; exact Nat.lt_of_lt_of_le (h.lt i b hb) hc.size
  · have hl : st.b.length + 1 ≤ i := by simpa using hi'
    have hne : i ≠ st.b.length := by omega
    refine ⟨by rw [e3 i hne]; exact (h.top i (by omega)).1, ?_⟩
    show (if i = st.b.length then _ else _) = _
    rw [if_neg hne]; exact (h.top i (by omega)).2

theorem GR.putS {tmps : Array Value} (h : GR C m0 w0 E st tmps w) (d : Option Tmp) {s : Slot} {v : Value} (hs : SlotRep E s v) (a : Act) (ha : a.tmps = tmps) : GR C m0 w0 E (st.put d s) (a.put d v).tmps w :=
  ⟨h.fr.put d hs a ha, h.chg, h.own, h.lt, fun i hi => h.top i (by cases d <;> exact hi), h.gl⟩
theorem put_b (st : St) (d : Option Tmp) (s : Slot) (b : List (Option Bx)) : ({ st with b := b } : St).put d s = { (st.put d s) with b := b } := by cases d <;> rfl

/-- A new variable in memory. -/
theorem GR.box {o : Obj} {cs : List Value} {e : TypeId} {tv : TV} (ho : o = .cells cs.toArray e) (h : GR C m0 w0 E st a.tmps w) (hr : rep E tv.t tv.x cs) (d : Option Tmp) {w' : World} (hw : w' = { w with heap := w.heap.push o }) :
    ∃ E', GR C m0 w0 E' { (st.put d (.v ⟨.ptr st.b.length 0 tv.t, ()⟩)) with b := st.b ++ [some (.one tv)] } (a.put d (.pointer (some ⟨w.heap.size, 0, none⟩))).tmps w' := by
  subst ho hw
  obtain ⟨E', hle, hb, _, hg⟩ := h.new (bx := .one tv) (nβ := some w.heap.size) (nτ := none) (push_chg (.cells cs.toArray e)) (fun b hb => by obtain rfl := Option.some.inj hb; simp) (fun E' hle hm hb _ hnone =>
    ⟨w.heap.size, cs, e, hb, by simp, rep_mono hle _ _ _ hr, fun j => by rw [hm]; exact hnone j⟩)
  have := hg.putS d (s := .v ⟨.ptr st.b.length 0 tv.t, ()⟩) (v := .pointer (some ⟨w.heap.size, 0, none⟩)) ⟨[_], ⟨w.heap.size, hb, rfl⟩, rfl⟩ a rfl
  rw [put_b] at this
  exact ⟨E', this⟩

theorem run_storeVar {w : World} {ty : TypeId} {inf : TypeInfo} {blk o : Nat} {e : TypeId} {pre c0 post : List Value} {v : Value} (hinf : P.info? ty = some inf) (hh : w.heap[blk]? = some (.cells (pre ++ c0 ++ post).toArray e (0, 0)))
    (ho : pre.length = o) (hl : c0.length = v.cells.size) (hs : inf.size = v.cells.size) (h1 : ∀ u ∈ v.cells.toList, u.oneCell' = true) :
    (storeVar ty ⟨blk, o, none⟩ v).run P w = .ok () (w.setRow blk (pre ++ v.cells.toList ++ post).toArray) := by
  unfold storeVar
  rw [Sem.run_bind, run_sizeOf' hinf, Result.andThen_ok, if_neg (by omega)]
  show (storeCells ⟨blk, o, none⟩ v.cells.toList 0).run P w = _
  rw [run_storeCells_at P blk o e v.cells.toList 0 _ w hh (by simp; omega) h1]
  congr 2
  simp only [Nat.add_zero]
  subst ho
  have e1 : (pre ++ c0 ++ post).take pre.length = pre := by simp
  have e2 : (pre ++ c0 ++ post).drop (pre.length + v.cells.toList.length) = post := by
    have : pre.length + v.cells.toList.length = (pre ++ c0).length := by simp [hl]
    rw [this, List.drop_left]
  rw [e1, e2]

theorem rep_oneCell {E : Env} : ∀ (t : Ty) (x : t.den) (cs : List Value), rep E t x cs → ∀ u ∈ cs, u.oneCell' = true
  | .unit, _, _, r => by rw [show _ = [] from r]; simp
  | .bool, _, _, r => by rw [show _ = [_] from r]; simp [Value.oneCell']
  | .int _, _, _, r => by rw [show _ = [_] from r]; simp [Value.oneCell']
  | .str, _, _, r => by rw [show _ = [_] from r]; simp [Value.oneCell']
  | .pair a b, _, _, ⟨c1, c2, e, r1, r2⟩ => by
    rw [e]; intro u hu
    rcases List.mem_append.1 hu with h | h
    · exact rep_oneCell a _ _ r1 u h
    · exact rep_oneCell b _ _ r2 u h
  | .list t, _, _, ⟨A, cap, e, _⟩ => by rw [e]; simp [Value.oneCell']
  | .nl t, _, _, r => by rw [show _ = [_] from r]; simp [Value.oneCell']
  | .opt t, _, _, .inl ⟨_, e⟩ => by rw [e]; simp [Value.oneCell']
  | .opt t, _, _, .inr ⟨_, _, _, _, e, _⟩ => by rw [e]; simp [Value.oneCell']
  | .ep _ _ _ _, _, _, ⟨b, _, e⟩ => by rw [e]; simp [Value.oneCell']
  | .sl _ t, _, _, ⟨A, n, cap, _, e⟩ => by rw [e]; simp [Value.oneCell']
  | .ref t, _, _, ⟨a, c, e, _⟩ => by rw [e]; simp [Value.oneCell']
  | .ptr _ _ _, _, _, ⟨b, _, e⟩ => by rw [e]; simp [Value.oneCell']
  | .fn _ _ b, _, _, ⟨bs, _, e⟩ => by rw [e]; simp [Value.oneCell']

theorem setRow_else (w : World) (b : Nat) (c : Array Value) (k : Nat) (h : k ≠ b) : (w.setRow b c).heap[k]? = w.heap[k]? := by
  unfold World.setRow
  simp only [Array.getElem?_modify]
  rw [if_neg (by omega)]
theorem setRow_size' (w : World) (b : Nat) (c : Array Value) : (w.setRow b c).heap.size = w.heap.size := by
  unfold World.setRow; simp

/-- A box is given new contents. -/
theorem GR.upd {tmps : Array Value} {i ad : Nat} {cs cs' : List Value} {e : TypeId} {bx : Bx} (h : GR C m0 w0 E st tmps w) (hb : E.β i = some ad) (hh : w.heap[ad]? = some (.cells cs.toArray e (0, 0))) (hm : ∀ j, E.m ad j = none)
    (hok : (w.setRow ad cs'.toArray).heap[ad]? = some (.cells cs'.toArray e (0, 0)) → (match bx with | .one tv => OneOK E (w.setRow ad cs'.toArray) i tv | .arr e t xs => ArrOK E (w.setRow ad cs'.toArray) i e t xs)) :
    GR C m0 w0 E { st with b := st.b.set i (some bx) } tmps (w.setRow ad cs'.toArray) := by
  have hok := hok (Go.setRow_heap w ad _ _ e (0, 0) hh)
  have other : ∀ j b, i ≠ j → E.β j = some b → (w.setRow ad cs'.toArray).heap[b]? = w.heap[b]? ∧ E.m b = E.m b := fun j b hij hbj => ⟨setRow_else _ _ _ _ (fun hh3 => hij (h.fr.inj i j b (by rw [hb, hh3]) hbj)), rfl⟩
  have at_ : ∀ j (c : Bx), (st.b.set i (some bx))[j]? = some (some c) → (i = j ∧ c = bx) ∨ (i ≠ j ∧ st.b[j]? = some (some c)) := fun j c hc => by
    rw [List.getElem?_set] at hc
    by_cases hij : i = j
    · rw [if_pos hij] at hc
      split at hc
      · simp only [Option.some.injEq] at hc; exact .inl ⟨hij, hc.symm⟩
      · cases hc
    · rw [if_neg hij] at hc; exact .inr ⟨hij, hc⟩
  refine ⟨⟨h.fr.len, h.fr.slots, fun j t ht => ?_, fun j e t xs ht => ?_, h.fr.inj, fun b j u hu => ?_⟩, ?_, h.own, fun j b hb => ?_, fun j hj => h.top j (by simpa using hj), h.gl⟩
  · rcases at_ j _ ht with ⟨rfl, rfl⟩ | ⟨hij, h1⟩
    · exact hok
    · exact (h.fr.boxes j t h1).keep (.refl E) (fun b hbj => other j b hij hbj)
  · rcases at_ j _ ht with ⟨rfl, rfl⟩ | ⟨hij, h1⟩
    · exact hok
    · exact (h.fr.arrs j e t xs h1).keep (.refl E) rfl (fun b hbj => other j b hij hbj)
  · have h1 := h.fr.inv b j u hu
    have hne : b ≠ ad := fun hh3 => by subst hh3; rw [hm j] at hu; cases hu
    unfold World.cell? at h1 ⊢
    rw [setRow_else _ _ _ _ hne]; exact h1
  · have hle := h.own i ad hb
    exact ⟨h.chg.os, h.chg.tape, h.chg.output, h.chg.drawn, by rw [setRow_size']; exact h.chg.size, fun b hb' hx => by rw [setRow_else _ _ _ _ (by omega)]; exact h.chg.heap b hb' hx, h.chg.mem⟩
  · rw [setRow_size']; exact h.lt j b hb

/-- A variable in memory is written. -/
theorem GR.store {i : Nat} {c : TV} {y : c.t.den} {q : Nat} {tv : TV} {v : Value} {ty : TypeId} {inf : TypeInfo} (h : GR C m0 w0 E st a.tmps w) (hc : st.b[i]? = some (some (.one c))) (hy : setAt c.t c.x q tv = some y) (hv : VRep E tv.t tv.x v)
    (hinf : P.info? ty = some inf) (hs : inf.size = tv.t.size) {ad : Nat} (hb : E.β i = some ad) :
    ∃ w', (storeVar ty ⟨ad, q, none⟩ v).run P w = .ok () w' ∧ GR C m0 w0 E { st with b := st.b.set i (some (.one ⟨c.t, y⟩)) } a.tmps w' := by
  obtain ⟨blk, cs, e, hb', hh, hr, hm⟩ := h.fr.boxes i c hc
  obtain rfl : ad = blk := Option.some.inj (hb.symm.trans hb')
  obtain ⟨pre, c0, post, rfl, hp, hl, hset⟩ := setAt_ok _ _ _ _ _ hy hr
  have hvc := hv.cells
  have hvl := rep_length _ _ _ hvc
  have hsz : v.cells.size = tv.t.size := by rw [← hvl]; simp
  exact ⟨_, run_storeVar hinf hh hp (by omega) (by omega) (rep_oneCell _ _ _ hvc), h.upd (bx := .one ⟨c.t, y⟩) hb hh hm fun hnew => ⟨ad, _, e, hb, hnew, hset _ hvc, hm⟩⟩

/-- An element of an array under construction is written. -/
theorem GR.storeE {k : Nat} {e0 : TypeId} {u : Ty} {xs : List u.den} {i : Nat} {x0 y : u.den} {q : Nat} {tv : TV} {v : Value} {ty : TypeId} {inf : TypeInfo} (h : GR C m0 w0 E st a.tmps w) (hc : st.b[k]? = some (some (.arr e0 u xs))) (hx : xs[i]? = some x0) (hy : setAt u x0 q tv = some y) (hv : VRep E tv.t tv.x v)
    (hinf : P.info? ty = some inf) (hs : inf.size = tv.t.size) {ad : Nat} (hb : E.β k = some ad) :
    ∃ w', (storeVar ty ⟨ad, i * u.size + q, none⟩ v).run P w = .ok () w' ∧ GR C m0 w0 E { st with b := st.b.set k (some (.arr e0 u (xs.set i y))) } a.tmps w' := by
  obtain ⟨hd, l, hτ, ho, hr, hβ, hm⟩ := h.fr.arrs k e0 u xs hc
  have hob : hd.ownBlock = some ad := hβ.symm.trans hb
  rcases ho.2 with ⟨rfl, _⟩ | ⟨g, cap, cur, rfl, _, hg, hnc, hcm, hcs, htake⟩
  · simp [Value.ownBlock] at hob
  · obtain rfl : g = ad := Option.some.inj hob
    obtain ⟨pre, c, post, hl, hp, hrc, hset⟩ := reps_at xs l i x0 hr hx
    obtain ⟨pre2, c0, post2, hc2, hp2, hl2, hset2⟩ := setAt_ok _ _ _ _ _ hy hrc
    have hvc := hv.cells
    have hvl := rep_length _ _ _ hvc
    have hsz : v.cells.size = tv.t.size := by rw [← hvl]; simp
    have hcur : cur.toList = (pre ++ pre2) ++ c0 ++ (post2 ++ post ++ cur.toList.drop (xs.length * u.size)) := by
      conv => lhs; rw [← List.take_append_drop (xs.length * u.size) cur.toList, htake, hl, hc2]
      simp [List.append_assoc]
    have hg' : w.heap[g]? = some (.cells ((pre ++ pre2) ++ c0 ++ (post2 ++ post ++ cur.toList.drop (xs.length * u.size))).toArray e0 (0, 0)) := by rw [← hcur]; simpa using hg
    have hrep := hset y _ (hset2 _ hvc)
    have hrl := reps_length _ _ hrep
    have e1 : (pre ++ pre2) ++ v.cells.toList ++ (post2 ++ post ++ cur.toList.drop (xs.length * u.size)) = (pre ++ (pre2 ++ v.cells.toList ++ post2) ++ post) ++ cur.toList.drop (xs.length * u.size) := by simp [List.append_assoc]
    have hlen0 : (pre ++ (pre2 ++ v.cells.toList ++ post2) ++ post).length = xs.length * u.size := by rw [hrl, List.length_set]
    refine ⟨_, run_storeVar hinf hg' (by rw [List.length_append, hp, hp2]) (by omega) (by omega) (rep_oneCell _ _ _ hvc), h.upd (bx := .arr e0 u (xs.set i y)) hb hg' (fun j => hm g j rfl) fun hnew => ⟨_, _, hτ, ⟨by rw [List.length_set]; exact hlen0, .inr ⟨g, cap, _, by rw [List.length_set], Nat.zero_le _, hnew, by rw [List.length_set]; exact hnc, hcm, ?_, ?_⟩⟩, hrep, hβ, hm⟩⟩
    · rw [← hcs]
      have hcl : cur.size = ((pre ++ pre2) ++ c0 ++ (post2 ++ post ++ cur.toList.drop (xs.length * u.size))).length := by rw [← hcur]; simp
      simp only [List.size_toArray, List.length_append, Array.length_toList] at hcl ⊢
      omega
    · show List.take _ (List.toArray _).toList = _
      rw [List.toList_toArray, e1, List.length_set, ← hlen0, List.take_left]

theorem zero_rep {t : Ty} {x : t.den} {z : Value} (E : Env) (h : ofCells t z.cells.toList = some (x, [])) : rep E t x z.cells.toList := by
  obtain ⟨c, e, q⟩ := ofCells_ok E _ _ _ _ h
  rw [List.append_nil] at e
  rw [e]; exact q

/-! what is laid down for good -/
theorem GR.mapS {tmps : Array Value} (h : GR C m0 w0 E st tmps w) (f : Slot → Slot) (hf : ∀ s v, SlotRep E s v → SlotRep E (f s) v) : GR C m0 w0 E ⟨st.t.map f, st.b⟩ tmps w :=
  ⟨⟨by show (st.t.map f).length = _; rw [List.length_map]; exact h.fr.len, fun i s _ hs => by
    have hs' : (st.t.map f)[i]? = some s := hs
    rw [List.getElem?_map, Option.map_eq_some_iff] at hs'
    obtain ⟨s0, h0, rfl⟩ := hs'
    exact hf _ _ (h.fr.slots i s0 trivial h0), h.fr.boxes, h.fr.arrs, h.fr.inj, h.fr.inv⟩, h.chg, h.own, h.lt, h.top, h.gl⟩
theorem commit_le {m : Mem} {g : Nat} {l : List Value} (hm : ∀ j, m g j = none) : ∀ b j v, m b j = some v → commit m g l b j = some v := fun b j v hv => by
  unfold commit
  split
  · rename_i e; subst e; rw [hm j] at hv; cases hv
  · exact hv
theorem GR.drop {tmps : Array Value} (h : GR C m0 w0 E st tmps w) (i : Nat) : GR C m0 w0 E { st with b := st.b.set i none } tmps w := by
  have at_ : ∀ j (c : Bx), (st.b.set i none)[j]? = some (some c) → st.b[j]? = some (some c) ∧ j ≠ i := fun j c hc => by
    rw [List.getElem?_set] at hc
    split at hc
    · split at hc
      · cases hc
      · cases hc
    · rename_i hne; exact ⟨hc, fun q => hne q.symm⟩
  exact ⟨⟨h.fr.len, h.fr.slots, fun j t hj => h.fr.boxes j t (at_ j _ hj).1, fun j e t xs hj => h.fr.arrs j e t xs (at_ j _ hj).1, h.fr.inj, h.fr.inv⟩, h.chg, h.own, h.lt, fun j hj => h.top j (by simpa using hj), h.gl⟩
theorem GR.commit {tmps : Array Value} {i g : Nat} {l : List Value} (h : GR C m0 w0 E st tmps w) (hb : E.β i = some g) (hm : ∀ j, E.m g j = none) (hl : ∀ j v, l[j]? = some v → w.cell? ⟨g, j, none⟩ = some v) :
    GR C m0 w0 { E with m := commit E.m g l } { st with b := st.b.set i none } tmps w ∧ E.le { E with m := YtadamegddcadcaaGreatDoorPi.commit E.m g l } := by
  have hle : E.le { E with m := YtadamegddcadcaaGreatDoorPi.commit E.m g l } := Env.le_m (commit_le hm)
  have at_ : ∀ j (c : Bx), (st.b.set i none)[j]? = some (some c) → st.b[j]? = some (some c) ∧ j ≠ i := fun j c hc => by
    rw [List.getElem?_set] at hc
    split at hc
    · split at hc
      · cases hc
      · cases hc
    · rename_i hne; exact ⟨hc, fun q => hne q.symm⟩
  have other : ∀ j b, j ≠ i → E.β j = some b → w.heap[b]? = w.heap[b]? ∧ YtadamegddcadcaaGreatDoorPi.commit E.m g l b = E.m b := fun j b hj hbj => ⟨rfl, by
    funext x; unfold YtadamegddcadcaaGreatDoorPi.commit; rw [if_neg (fun q => hj (h.fr.inj j i b hbj (by rw [q]; exact hb)))]⟩
  refine ⟨⟨⟨h.fr.len, fun k s hk hs => (h.fr.slots k s hk hs).mono hle, fun j t hj => (h.fr.boxes j t (at_ j _ hj).1).keep hle (other j · (at_ j _ hj).2), fun j e t xs hj => (h.fr.arrs j e t xs (at_ j _ hj).1).keep hle rfl (other j · (at_ j _ hj).2), h.fr.inj, fun b j v hv => ?_⟩, ⟨h.chg.os, h.chg.tape, h.chg.output, h.chg.drawn, h.chg.size, h.chg.heap, fun b hb' => ?_⟩, h.own, h.lt, fun j hj => h.top j (by simpa using hj), C.mono hle.m h.gl⟩, hle⟩
  · have hv' : YtadamegddcadcaaGreatDoorPi.commit E.m g l b j = some v := hv
    unfold YtadamegddcadcaaGreatDoorPi.commit at hv'
    split at hv'
    · rename_i e; subst e; exact hl j v hv'
    · exact h.fr.inv b j v hv'
  · rw [← h.chg.mem b hb']
    funext x
    show YtadamegddcadcaaGreatDoorPi.commit E.m g l b x = _
    unfold YtadamegddcadcaaGreatDoorPi.commit
    rw [if_neg (fun q => by have := h.own i g hb; omega)]

theorem GR.frz {tmps : Array Value} (h : GR C m0 w0 E st tmps w) (i : Nat) : ∃ E', GR C m0 w0 E' (st.frz i) tmps w := by
  unfold St.frz
  split
  · rename_i c hc
    cases c with
    | one tv =>
      obtain ⟨blk, cs, e, hb, hh, hr, hm⟩ := h.fr.boxes i tv hc
      obtain ⟨hg, hle⟩ := h.commit (l := cs) hb hm (fun j v hj => cell_blk hh hj)
      refine ⟨_, hg.mapS (frzS i (.one tv)) fun s v hs => ?_⟩
      unfold frzS
      split
      · split
        · trivial
        · exact hs
      · rename_i k o t y
        split
        · rename_i hk
          subst hk
          split
          · rename_i tv' heq
            simp only [Bx.one.injEq] at heq
            subst heq
            split
            · rename_i z hz
              obtain ⟨b, hb', rfl⟩ := vrep_ptr hs
              obtain rfl : blk = b := Option.some.inj (hb.symm.trans hb')
              obtain ⟨pre, q, post, rfl, hp, hq⟩ := getAt_ok _ _ _ _ hz hr
              refine ⟨[.pointer (some ⟨blk, o, none⟩)], ⟨_, q, rfl, rep_mono hle _ _ _ hq, rfl, fun j v hj => ?_⟩, rfl⟩
              show YtadamegddcadcaaGreatDoorPi.commit E.m blk (pre ++ q ++ post) blk (o + j) = some v
              unfold YtadamegddcadcaaGreatDoorPi.commit
              rw [if_pos rfl, List.append_assoc, List.getElem?_append_right (by omega), show o + j - pre.length = j by omega, List.getElem?_append_left (List.getElem?_eq_some_iff.1 hj).1]
              exact hj
            · trivial
          · rename_i hno; exact (hno _ rfl).elim
        · exact hs
      · exact hs
    | arr e t xs =>
      obtain ⟨hd, l, hτ, ho, hr, hβ, hm⟩ := h.fr.arrs i e t xs hc
      rcases ho.2 with ⟨rfl, hn⟩ | ⟨g, cap, cur, rfl, _, hg, hnc, hcm, hcs, htake⟩
      · have hxs : xs = [] := List.eq_nil_of_length_eq_zero hn
        subst hxs
        refine ⟨E, (h.drop i).mapS (frzS i (.arr e t [])) fun s v hs => ?_⟩
        unfold frzS
        split
        · rename_i k t2 y
          split
          · rename_i hk
            subst hk
            split
            · rename_i e' t' xs' heq
              simp only [Bx.arr.injEq] at heq
              obtain ⟨rfl, rfl, heq⟩ := heq
              obtain rfl := eq_of_heq heq
              split
              · obtain ⟨A, n, cp, rfl, hτ2⟩ := vrep_sl hs
                have := Option.some.inj (hτ.symm.trans hτ2)
                simp only [Value.slice.injEq] at this
                obtain ⟨rfl, rfl, rfl⟩ := this
                exact ⟨[.slice none 0 0], ⟨none, 0, rfl, fun _ => rfl, Nat.le_refl _, fun i x hx => by simp at hx⟩, rfl⟩
              · trivial
            · rename_i hno; exact (hno _ _ _ rfl).elim
          · exact hs
        · split
          · trivial
          · exact hs
        · exact hs
      · have hob : E.β i = some g := hβ
        obtain ⟨hg', hle⟩ := h.commit (l := l) hob (fun j => hm g j rfl) (fun j v hj => by
          have := ho.cells (g := g) rfl j v hj
          rw [add_spotless, Nat.zero_add] at this; exact this)
        refine ⟨_, hg'.mapS (frzS i (.arr e t xs)) fun s v hs => ?_⟩
        unfold frzS
        split
        · rename_i k t2 y
          split
          · rename_i hk
            subst hk
            split
            · rename_i e' t' xs' heq
              simp only [Bx.arr.injEq] at heq
              obtain ⟨rfl, rfl, heq⟩ := heq
              obtain rfl := eq_of_heq heq
              split
              · obtain ⟨A, n, cp, rfl, hτ2⟩ := vrep_sl hs
                have := Option.some.inj (hτ.symm.trans hτ2)
                simp only [Value.slice.injEq] at this
                obtain ⟨rfl, rfl, rfl⟩ := this
                refine ⟨[.slice (some ⟨g, 0, none⟩) xs.length cap], ⟨some ⟨g, 0, none⟩, cap, rfl, fun q => (nomatch q), hnc, fun j x hx => ?_⟩, rfl⟩
                obtain ⟨pre, c, post, hl2, hp, hrc, _⟩ := reps_at xs l j x hr hx
                refine ⟨⟨g, 0, none⟩, c, rfl, rfl, rep_mono hle _ _ _ hrc, rfl, fun q v hq => ?_⟩
                show YtadamegddcadcaaGreatDoorPi.commit E.m g l g (0 + j * t.size + q) = some v
                unfold YtadamegddcadcaaGreatDoorPi.commit
                rw [if_pos rfl, hl2, List.append_assoc, List.getElem?_append_right (by omega), show 0 + j * t.size + q - pre.length = q by omega, List.getElem?_append_left (List.getElem?_eq_some_iff.1 hq).1]
                exact hq
              · trivial
            · rename_i hno; exact (hno _ _ _ rfl).elim
          · exact hs
        · split
          · trivial
          · exact hs
        · exact hs
  · exact ⟨E, h⟩
theorem GR.frzO {tmps : Array Value} (h : GR C m0 w0 E st tmps w) (p : Bool) (x : Operand) : ∃ E', GR C m0 w0 E' (st.frzO p x) tmps w := by
  unfold St.frzO
  split
  · split
    · exact h.frz _
    · split
      · exact h.frz _
      · exact ⟨E, h⟩
    · exact ⟨E, h⟩
  · exact ⟨E, h⟩
theorem GR.frzL {tmps : Array Value} (p : Bool) : ∀ (l : List Operand) (E : Env) (st : St), GR C m0 w0 E st tmps w → ∃ E', GR C m0 w0 E' (st.frzL p l) tmps w
  | [], E, _, h => ⟨E, h⟩
  | x :: r, _, _, h => by
    obtain ⟨E1, h1⟩ := h.frzO p x
    exact GR.frzL p r E1 _ h1

/-! appends -/
theorem rows_cells {E : Env} {t : Ty} {b : Nat} : ∀ (xs : List t.den) (off : Nat), (∀ (i : Nat) x, xs[i]? = some x → ∃ c, rep E t x c ∧ Row E.m ⟨b, off + i * t.size, none⟩ c) → ∃ l, reps E t xs l ∧ ∀ j u, l[j]? = some u → E.m b (off + j) = some u
  | [], _, _ => ⟨[], rfl, fun j u h => by simp at h⟩
  | x :: xs, off, h => by
    obtain ⟨c, hr, hw⟩ := h 0 x rfl
    obtain ⟨l, hl, hm⟩ := rows_cells xs (off + t.size) (fun i y hy => by
      obtain ⟨c, hr, hw⟩ := h (i + 1) y hy
      exact ⟨c, hr, by rw [show off + t.size + i * t.size = off + (i + 1) * t.size by rw [Nat.add_mul]; omega]; exact hw⟩)
    refine ⟨c ++ l, ⟨c, l, rfl, hr, hl⟩, fun j u hj => ?_⟩
    have hlen := rep_length _ _ _ hr
    by_cases hlt : j < c.length
    · rw [List.getElem?_append_left hlt] at hj
      have := hw.2 j u hj
      simpa using this
    · rw [List.getElem?_append_right (by omega)] at hj
      have := hm _ u hj
      rw [show off + j = off + t.size + (j - c.length) by omega]; exact this
theorem reps_oneCell {E : Env} {t : Ty} : ∀ (xs : List t.den) (l : List Value), reps E t xs l → ∀ u ∈ l, u.oneCell' = true
  | [], _, r => by rw [show _ = [] from r]; simp
  | x :: xs, _, ⟨c1, c2, e, r1, r2⟩ => by
    rw [e]; intro u hu
    rcases List.mem_append.1 hu with h | h
    · exact rep_oneCell _ _ _ r1 u h
    · exact reps_oneCell xs _ r2 u h

/-- What append does with an array that is the call's own. -/
theorem app_run {t ty e : TypeId} {i : TypeInfo} {z : Value} {size : Nat} (ht : P.underlying t = some (.slice e)) (hi : P.info? e = some i) (hz : i.zero = some z) (hsize : i.size = size) (hzs : z.cells.size = size) (hsz : 0 < size)
    {v : Value} {n : Nat} {xs : List Value} (hown : w.ownsRow 0 e size v n xs) {ad : Addr} {m c : Nat} {news : List Value} (hl : news.length = m * size) (hnews : ∀ j u, news[j]? = some u → w.cell? (ad.add j) = some u) (h1 : ∀ u ∈ news, u.oneCell' = true)
    (hb : (n + m) * (i.bytes + 1) ≤ 140737488355328) :
    ∃ v' w', (Builtin.append_ #[t, t] ty #[v, .slice (some ad) m c]).run P w = .ok v' w' ∧ w'.ownsRow 0 e size v' (n + m) (xs ++ news) ∧ w.grownBy w' v.ownBlock ∧ w.drawn ≤ w'.drawn ∧ (v'.ownBlock = v.ownBlock ∨ v'.ownBlock = some w.heap.size) := by
  have hb1 : n + m ≤ 140737488355328 := by rw [Nat.mul_add, Nat.mul_one] at hb; omega
  have hb2 : (n + m) * i.bytes ≤ 140737488355328 := by rw [Nat.mul_add] at hb; omega
  have h63 : n + m ≤ maxLen := by unfold maxLen; omega
  obtain ⟨v', w', hrun, ho, hg, _⟩ := run_append_own (P := P) w 0 t ty e i z size i.bytes ht hi hz hsize rfl hzs hsz v n xs hown ad m c news hl hnews h1 h63 hb2 (Nat.zero_le _)
  refine ⟨v', w', hrun, ho, hg, ?_⟩
  subst hsize
  have same : ∀ V W, (Builtin.append_ #[t, t] ty #[v, .slice (some ad) m c]).run P w = .ok V W → w.drawn ≤ W.drawn → (V.ownBlock = v.ownBlock ∨ V.ownBlock = some w.heap.size) → w.drawn ≤ w'.drawn ∧ (v'.ownBlock = v.ownBlock ∨ v'.ownBlock = some w.heap.size) := fun V W h2 h3 h4 => by
    rw [hrun] at h2
    injection h2 with a1 a2
    subst a1 a2
    exact ⟨h3, h4⟩
  rcases hown.2 with ⟨rfl, rfl⟩ | ⟨g, cap, cur, rfl, hbg, hgg, hnc, hcm, hcs, htake⟩
  · by_cases hm : m = 0
    · subst hm
      have hn : news = [] := List.eq_nil_of_length_eq_zero (by simpa using hl)
      subst hn
      refine same (.slice none 0 0) w ?_ (Nat.le_refl _) (.inl rfl)
      simp [Builtin.append_, run_underlying ht, sizeOf, typeInfo, hi, Builtin.lenOf, Builtin.firstCells, loadCells, loadCellsFrom]
    · have hr := run_append_nil (P := P) w t ty e i z ht hi hz ad m c news hl hnews (by omega) (by omega) (by have hb := hb2; simp only [Nat.zero_add] at hb; omega)
      exact same _ _ hr (Nat.le_succ _) (.inr rfl)
  · by_cases hroom : n + m ≤ cap
    · have hfit : n * i.size + news.length ≤ cur.size := by rw [hl, hcs, ← Nat.add_mul]; exact Nat.mul_le_mul_right _ hroom
      have hr := run_append_room (P := P) w t ty e i ht hi g n cap cur hgg ad m c news hl hnews h1 hroom hfit
      exact same _ _ hr (Nat.le_refl _) (.inl rfl)
    · have holds : ∀ j u, xs[j]? = some u → w.cell? ((⟨g, 0, none⟩ : Addr).add j) = some u := hown.cells (g := g) rfl
      have hr := run_append_grow (P := P) w t ty e i z ht hi hz ⟨g, 0, none⟩ n cap xs hown.1 holds ad m c news hl hnews (by omega) (by omega) (growslice_fits (by omega) hb2)
      exact same _ _ hr (Nat.le_succ _) (.inr rfl)

theorem offS_ok {E E' : Env} {p : Nat → Bool} (hm : ∀ b j v, E.m b j = some v → E'.m b j = some v) (hβ : ∀ i b, p i = true → E.β i = some b → E'.β i = some b) (hτ : ∀ k v, p k = true → E.τ k = some v → E'.τ k = some v) {s : Slot} {v : Value} (h : SlotRep E s v) : SlotRep E' (offS p s) v := by
  have vr : ∀ (t : Ty) (x : t.den) (v : Value), t.on p = true → VRep E t x v → VRep E' t x v := fun t x v ht ⟨cs, r, e⟩ => ⟨cs, rep_on hm hβ hτ t x cs ht r, e⟩
  have vs : ∀ (t : Ty) (x : t.den) (vs : List Value), t.on p = true → vals E t x vs → vals E' t x vs := by
    intro t
    induction t with
    | unit => intro x vs _ h; exact h
    | pair a b _ ihb =>
      intro x vs ht ⟨v, vs', e, h1, h2⟩
      simp only [Ty.on, Bool.and_eq_true] at ht
      exact ⟨v, vs', e, vr a _ _ ht.1 h1, ihb _ _ ht.2 h2⟩
    | _ => intro x vs _ h; exact h.elim
  cases s with
  | junk => trivial
  | undef => exact h
  | v x => simp only [offS]; split
           · rename_i hx; exact vr _ _ _ hx h
           · trivial
  | tup t x => simp only [offS]; split
               · rename_i hx; obtain ⟨l, hl, e⟩ := h; exact ⟨l, vs _ _ _ hx hl, e⟩
               · trivial
theorem offB_one {p : Nat → Bool} {o : Option Bx} {tv : TV} (h : offB p o = some (.one tv)) : o = some (.one tv) ∧ tv.t.on p = true := by
  unfold offB at h
  split at h
  · split at h
    · rename_i hx; simp only [Option.some.injEq, Bx.one.injEq] at h; subst h; exact ⟨rfl, hx⟩
    · cases h
  · split at h
    · simp at h
    · cases h
  · cases h
theorem offB_arr {p : Nat → Bool} {o : Option Bx} {e : TypeId} {t : Ty} {xs : List t.den} (h : offB p o = some (.arr e t xs)) : o = some (.arr e t xs) ∧ t.on p = true := by
  unfold offB at h
  split at h
  · split at h
    · simp at h
    · cases h
  · split at h
    · rename_i hx; simp only [Option.some.injEq] at h; rw [h]; simp only [Bx.arr.injEq] at h; obtain ⟨_, rfl, _⟩ := h; exact ⟨rfl, hx⟩
    · cases h
  · cases h

/-- Behind an append: the array is longer; what spoke of it is laid aside. -/
theorem GR.app {tmps : Array Value} {k : Nat} {e : TypeId} {t : Ty} {xs ys : List t.den} {v v' : Value} {l news : List Value} {w' : World} (h : GR C m0 w0 E st tmps w) (hk : k < st.b.length) (hon : t.on (fun i => i != k) = true)
    (hβ : E.β k = v.ownBlock) (hmv : ∀ g j, v.ownBlock = some g → E.m g j = none) (hr : reps E t xs l) (hn : reps E t ys news)
    (ho : w'.ownsRow 0 e t.size v' (xs.length + ys.length) (l ++ news)) (hg : w.grownBy w' v.ownBlock) (hd : w.drawn ≤ w'.drawn) (hv : v'.ownBlock = v.ownBlock ∨ v'.ownBlock = some w.heap.size) :
    ∃ E', E'.τ k = some v' ∧ GR C m0 w0 E' ⟨(st.off fun i => i != k).t, (st.off fun i => i != k).b.set k (some (.arr e t (xs ++ ys)))⟩ tmps w' := by
  let E' : Env := { E with β := fun i => if i = k then v'.ownBlock else E.β i, τ := fun i => if i = k then some v' else E.τ i }
  have b1 : E'.β k = v'.ownBlock := by show (if _ then _ else _) = _; rw [if_pos rfl]
  have t1 : E'.τ k = some v' := by show (if _ then _ else _) = _; rw [if_pos rfl]
  have b2 : ∀ i, i ≠ k → E'.β i = E.β i := fun i hi => by show (if _ then _ else _) = _; rw [if_neg hi]
  have t2 : ∀ i, i ≠ k → E'.τ i = E.τ i := fun i hi => by show (if _ then _ else _) = _; rw [if_neg hi]
  have hm : ∀ b j u, E.m b j = some u → E'.m b j = some u := fun _ _ _ q => q
  have hβ' : ∀ i b, (i != k) = true → E.β i = some b → E'.β i = some b := fun i b hi q => by rw [b2 i (by simpa using hi)]; exact q
  have hτ' : ∀ i u, (i != k) = true → E.τ i = some u → E'.τ i = some u := fun i u hi q => by rw [t2 i (by simpa using hi)]; exact q
  have old : ∀ j b, j ≠ k → E.β j = some b → w'.heap[b]? = w.heap[b]? := fun j b hj hb => hg.block b (h.lt j b hb) (fun q => hj (h.fr.inj j k b hb (hβ.trans q.symm)))
  have newb : ∀ g j, v'.ownBlock = some g → E.m g j = none := fun g j q => by
    rcases hv with q' | q'
    · exact hmv g j (q'.symm.trans q)
    · obtain rfl : g = w.heap.size := Option.some.inj (q.symm.trans q')
      cases hmm : E.m w.heap.size j with
      | none => rfl
      | some u => exact absurd (cell_lt (h.fr.inv _ _ _ hmm)) (Nat.lt_irrefl _)
  have hlen : (st.off fun i => i != k).b.length = st.b.length := by simp [St.off]
  have hc : ChgX (fun b => v.ownBlock = some b) C E.m w E.m w' := ⟨hg.os, hg.tape, hg.output, fun _ => hd, hg.size, fun b hb hx => hg.block b hb (fun q => hx q.symm), fun _ _ => rfl⟩
  have at_ : ∀ j (c : Bx), ((st.off fun i => i != k).b.set k (some (.arr e t (xs ++ ys))))[j]? = some (some c) → (j = k ∧ c = .arr e t (xs ++ ys)) ∨ (j ≠ k ∧ ∃ o, st.b[j]? = some o ∧ offB (fun i => i != k) o = some c) := fun j c hc => by
    rw [List.getElem?_set] at hc
    by_cases hij : k = j
    · rw [if_pos hij] at hc
      split at hc
      · simp only [Option.some.injEq] at hc; exact .inl ⟨hij.symm, hc.symm⟩
      · cases hc
    · rw [if_neg hij] at hc
      have hc' : (st.b.map (offB fun i => i != k))[j]? = some (some c) := hc
      rw [List.getElem?_map, Option.map_eq_some_iff] at hc'
      exact .inr ⟨fun q => hij q.symm, hc'⟩
  refine ⟨E', t1, ⟨by show (st.t.map _).length = _; rw [List.length_map]; exact h.fr.len, fun i s _ hs => ?_, fun j tv hj => ?_, fun j e2 u zs hj => ?_, fun i j b hbi hbj => ?_, chg_inv hc (fun b j u hu q => by rw [hmv b j q] at hu; cases hu) h.fr.inv⟩, h.chg.trans hc (fun b hb q => by have := h.own k b (hβ.trans q); omega), fun i b hb => ?_, fun i b hb => ?_, fun i hi => ?_, h.gl⟩
  · have hs' : (st.t.map (offS fun i => i != k))[i]? = some s := hs
    rw [List.getElem?_map, Option.map_eq_some_iff] at hs'
    obtain ⟨s0, h0, rfl⟩ := hs'
    exact offS_ok hm hβ' hτ' (h.fr.slots i s0 trivial h0)
  · rcases at_ j _ hj with ⟨_, q⟩ | ⟨hjk, o, ho1, ho2⟩
    · cases q
    · obtain ⟨rfl, hto⟩ := offB_one ho2
      obtain ⟨blk, cs, e3, hb, hh, r, hmn⟩ := h.fr.boxes j tv ho1
      exact ⟨blk, cs, e3, by rw [b2 j hjk]; exact hb, by rw [old j blk hjk hb]; exact hh, rep_on hm hβ' hτ' _ _ _ hto r, hmn⟩
  · rcases at_ j _ hj with ⟨rfl, q⟩ | ⟨hjk, o, ho1, ho2⟩
    · simp only [Bx.arr.injEq] at q
      obtain ⟨rfl, rfl, q⟩ := q
      obtain rfl := eq_of_heq q
      exact ⟨v', _, t1, by rw [List.length_append]; exact ho, reps_on hm hβ' hτ' hon _ _ (reps_append _ _ _ _ hr hn), b1, newb⟩
    · obtain ⟨rfl, hto⟩ := offB_arr ho2
      obtain ⟨v2, l2, q1, q2, q3, q4, q5⟩ := h.fr.arrs j e2 u zs ho1
      exact ⟨v2, l2, by rw [t2 j hjk]; exact q1, ownsRow_heap q2 (fun g hg2 => old j g hjk (q4.trans hg2)), reps_on hm hβ' hτ' hto _ _ q3, by rw [b2 j hjk]; exact q4, q5⟩
  · have key : ∀ j b, j ≠ k → E'.β k = some b → E.β j = some b → False := fun j b hjk q1 q2 => by
      rw [b1] at q1
      rcases hv with q | q
      · exact hjk (h.fr.inj j k b q2 (hβ.trans (q.symm.trans q1)))
      · obtain rfl : w.heap.size = b := Option.some.inj (q.symm.trans q1)
        exact absurd (h.lt j _ q2) (Nat.lt_irrefl _)
    by_cases i1 : i = k <;> by_cases j1 : j = k
    · omega
    · rw [i1] at hbi; rw [b2 j j1] at hbj; exact (key j b j1 hbi hbj).elim
    · rw [j1] at hbj; rw [b2 i i1] at hbi; exact (key i b i1 hbj hbi).elim
    · rw [b2 i i1] at hbi; rw [b2 j j1] at hbj; exact h.fr.inj i j b hbi hbj
  · by_cases i1 : i = k
    · rw [i1, b1] at hb
      rcases hv with q | q
      · exact h.own k b (hβ.trans (q.symm.trans hb))
      · obtain rfl : w.heap.size = b := Option.some.inj (q.symm.trans hb)
        exact h.chg.size
    · rw [b2 i i1] at hb; exact h.own i b hb
  · by_cases i1 : i = k
    · rw [i1, b1] at hb; exact (ho.lt b hb).2
    · rw [b2 i i1] at hb; exact Nat.lt_of_lt_of_le (h.lt i b hb) hg.size
  · have hi2 : ((st.off fun i => i != k).b.set k (some (.arr e t (xs ++ ys)))).length ≤ i := hi
    rw [List.length_set, hlen] at hi2
    have hne : i ≠ k := by omega
    exact ⟨by rw [b2 i hne]; exact (h.top i hi2).1, by rw [t2 i hne]; exact (h.top i hi2).2⟩

variable {R : Type}
theorem list_val {t : Ty} {ys : List t.den} {v : Value} (hv : VRep E (.list t) ys v) : (v = .slice none 0 0 ∧ ys = []) ∨ ∃ (ad : Addr) (cap : Nat) (l : List Value), v = .slice (some ad) ys.length cap ∧ reps E t ys l ∧ ∀ j u, l[j]? = some u → ∃ q, ad.add j = ⟨ad.block, q, none⟩ ∧ E.m ad.block q = some u := by
  obtain ⟨A, cap, rfl, hn, hc, hr⟩ := vrep_list hv
  cases A with
  | none =>
    have h0 := hn rfl
    have hl : ys.length = 0 := by omega
    have : ys = [] := List.eq_nil_of_length_eq_zero hl
    subst this
    subst h0
    exact .inl ⟨rfl, rfl⟩
  | some ad =>
    refine .inr ⟨ad, cap, ?_⟩
    obtain ⟨l, hl, hm⟩ := rows_cells (E := E) (t := t) (b := ad.block) ys ad.off (fun i x hx => by
      obtain ⟨a, c, ha, _, r, w⟩ := hr i x hx
      obtain rfl := Option.some.inj ha
      exact ⟨c, r, w⟩)
    refine ⟨l, rfl, hl, fun j u hj => ⟨ad.off + j, ?_, hm j u hj⟩⟩
    have hsp : ad.spot = none := by
      cases ys with
      | nil => rw [show l = [] from hl] at hj; simp at hj
      | cons y ys =>
        obtain ⟨a, c, ha, hs, _⟩ := hr 0 y rfl
        obtain rfl := Option.some.inj ha
        exact hs
    unfold Addr.add; split
    · rename_i hz; obtain ⟨b', o', s'⟩ := ad; simp only at hsp; subst hsp; simp [hz]
    · rfl

theorem appK_ok {d : Option Tmp} {e : TypeId} {k : Nat} {t : Ty} {ys : List t.den} {K : St → Option R} {r : R} {ty : TypeId} (hu : P.underlying ty = some (.slice e)) (h : appK P st d e k t ys K = some r) :
    ∃ st', K st' = some r ∧ ∀ (m0 : Mem) (w0 : World) (E : Env) (a : Act) (w : World) (v vy : Value) (ty' : TypeId), GR C m0 w0 E st a.tmps w → E.τ k = some v → VRep E (.list t) ys vy →
      ∃ v' w' E', (Builtin.append_ #[ty, ty] ty' #[v, vy]).run P w = .ok v' w' ∧ GR C m0 w0 E' st' (a.put d v').tmps w' := by
  unfold appK at h
  split at h
  · rename_i inf e' t' xs hinf hb
    split at h
    · rename_i z xs2 hz hcast
      split at h
      · rename_i hc
        obtain ⟨rfl, hon, hs1, hs2, hs3⟩ := hc
        rcases bif_some h with ⟨hbd, h⟩ | ⟨_, h⟩
        · have hbd' : (xs2.length + ys.length) * (inf.bytes + 1) ≤ 140737488355328 := by simpa using hbd
          refine ⟨_, h, fun m0 w0 E a w v vy ty' hg hτ hv => ?_⟩
          have hlist : (⟨.list t', xs⟩ : TV) = ⟨.list t, xs2⟩ := by
            unfold castTV at hcast
            split at hcast
            · rename_i hh
              simp only [Ty.list.injEq] at hh
              subst hh
              simp only [Option.some.injEq] at hcast
              rw [hcast]
            · simp [castU] at hcast
          simp only [TV.mk.injEq, Ty.list.injEq] at hlist
          obtain ⟨rfl, hx⟩ := hlist
          obtain rfl := eq_of_heq hx
          obtain ⟨v2, l, hτ2, ho, hr, hβ, hm⟩ := hg.fr.arrs k e' t' xs hb
          obtain rfl : v = v2 := Option.some.inj (hτ.symm.trans hτ2)
          have hk : k < st.b.length := (List.getElem?_eq_some_iff.1 hb).1
          have fin : ∀ v' w' news, reps E t' ys news → (Builtin.append_ #[ty, ty] ty' #[v, vy]).run P w = .ok v' w' → w'.ownsRow 0 e' t'.size v' (xs.length + ys.length) (l ++ news) → w.grownBy w' v.ownBlock → w.drawn ≤ w'.drawn → (v'.ownBlock = v.ownBlock ∨ v'.ownBlock = some w.heap.size) →
              ∃ v' w' E', (Builtin.append_ #[ty, ty] ty' #[v, vy]).run P w = .ok v' w' ∧ GR C m0 w0 E' ((⟨(st.off fun i => i != k).t, (st.off fun i => i != k).b.set k (some (.arr e' t' (xs ++ ys)))⟩ : St).put d (.v ⟨.sl k t', ()⟩)) (a.put d v').tmps w' := fun v' w' news hn hrun q1 q2 q3 q4 => by
            obtain ⟨E', ht', hg'⟩ := hg.app hk hon hβ hm hr hn q1 q2 q3 q4
            refine ⟨v', w', E', hrun, hg'.putS d ?_ a rfl⟩
            rcases q1.2 with ⟨rfl, _⟩ | ⟨g, cap, cur, rfl, _⟩
            · exact ⟨[_], ⟨none, 0, 0, ht', rfl⟩, rfl⟩
            · exact ⟨[_], ⟨_, _, _, ht', rfl⟩, rfl⟩
          rcases list_val hv with ⟨rfl, rfl⟩ | ⟨ad, cap, news, rfl, hnr, hnc⟩
          · have hrun := run_append_owned_none (P := P) w 0 ty ty' e' inf t'.size hu hinf v _ l ho
            exact fin v w [] rfl hrun (by simpa using ho) ⟨rfl, rfl, rfl, Nat.le_refl _, fun _ _ _ => rfl⟩ (Nat.le_refl _) (.inl rfl)
          · obtain ⟨v', w', hrun, q1, q2, q3, q4⟩ := app_run (P := P) (w := w) (ty := ty') (m := ys.length) (c := cap) (ad := ad) hu hinf hz hs1 (hs2.trans hs1) (hs1 ▸ hs3) ho (reps_length _ _ hnr) (fun j u hj => by
              obtain ⟨q, e1, e2⟩ := hnc j u hj
              rw [e1]; exact hg.fr.inv _ _ _ e2) (reps_oneCell _ _ hnr) hbd'
            exact fin v' w' news hnr hrun q1 q2 q3 q4
        · cases h
      · cases h
    · cases h
  · cases h

/-- Nothing yet, to be appended to. -/
theorem GR.nil {tmps : Array Value} (h : GR C m0 w0 E st tmps w) (e : TypeId) (t : Ty) : ∃ E', E.le E' ∧ E'.τ st.b.length = some (.slice none 0 0) ∧ GR C m0 w0 E' (st.fresh e t) tmps w := by
  obtain ⟨E', hle, _, ht, hg⟩ := h.new (bx := .arr e t []) (nβ := none) (nτ := some (.slice none 0 0)) (w' := w) (.refl _ _) (fun b hb => by cases hb) (fun E' _ _ hb ht _ =>
    ⟨_, [], ht, World.ownsRow_nil w 0 e t.size, rfl, hb, fun g j q => by cases q⟩)
  exact ⟨E', hle, ht, hg⟩

theorem appendK_ok {o : Oper} {c : Call} {K : St → Option R} {r : R} (ho : o.op = .call c) (hcb : c.callee = .builtin .append) (h : appendK P st o.dst c K = some r) : ∃ st', K st' = some r ∧ StepOK P C o st st' := by
  unfold appendK at h
  split at h
  · rename_i s x ty ty' hargs htys
    split at h
    · rename_i hty
      subst hty
      split at h
      · rename_i e hu
        have ha : ∀ a : Act, c.args.map a.eval = #[a.eval s, a.eval x] := fun a => by
          apply Array.ext'; simp [hargs]
        have hty' : c.argTypes = #[ty, ty] := by apply Array.ext'; simp [htys]
        have hex : ∀ (a : Act) (w w' : World) (v' : Value), (Builtin.append_ #[ty, ty] o.type #[a.eval s, a.eval x]).run P w = .ok v' w' → (execOp a.eval o).run P w = .ok (.value v') w' := fun a w w' v' hrun => by
          unfold execOp
          simp only [ho, resolve, hcb, ha, hty', Sem.run_bind, Sem.run_pure, Result.andThen_ok, invoke, builtin, hrun]
        split at h
        · rename_i k t y tx hs hx
          split at h
          · rename_i ys hys
            obtain ⟨st', hst, hok⟩ := appK_ok (C := C) hu h
            refine ⟨st', hst, fun m0 w0 E a w Kc Q hg hk => ?_⟩
            have hsv := opdN_ok hg.fr (fun _ _ => trivial) hs
            obtain ⟨A, n, cap, hv, hτ⟩ := vrep_sl hsv
            obtain ⟨v', w', E', hrun, hg'⟩ := hok m0 w0 E a w (a.eval s) (a.eval x) o.type hg (by rw [hv]; exact hτ) (castTV_ok hys (opdN_ok hg.fr (fun _ _ => trivial) hx))
            unfold Oper.wp
            rw [hex a w w' v' hrun]
            exact hk v' E' w' hg'
          · cases h
        · rename_i t y tx hs hx
          split at h
          · rename_i ys hys
            obtain ⟨st', hst, hok⟩ := appK_ok (C := C) hu h
            refine ⟨st', hst, fun m0 w0 E a w Kc Q hg hk => ?_⟩
            have hsv := vrep_nl (opdN_ok hg.fr (fun _ _ => trivial) hs)
            obtain ⟨E1, hle, hτ, hg1⟩ := hg.nil e t
            have hxv := (castTV_ok hys (opdN_ok hg.fr (fun _ _ => trivial) hx)).mono hle
            obtain ⟨v', w', E', hrun, hg'⟩ := hok m0 w0 E1 a w (a.eval s) (a.eval x) o.type hg1 (by rw [hsv]; exact hτ) hxv
            unfold Oper.wp
            rw [hex a w w' v' hrun]
            exact hk v' E' w' hg'
          · cases h
        · cases h
      · cases h
    · cases h
  · cases h

theorem chain_reps {E : Env} {t : Ty} : ∀ (n : Nat) (x : (many n t).den) (cs : List Value), rep E (many n t) x cs → reps E t (chain n t x) cs ∧ (chain n t x).length = n
  | 0, _, cs, r => ⟨r, rfl⟩
  | n + 1, x, _, ⟨c1, c2, e, r1, r2⟩ => by
    obtain ⟨h1, h2⟩ := chain_reps n x.2 c2 r2
    exact ⟨⟨c1, c2, e, r1, h1⟩, by show (chain n t x.2).length + 1 = _; rw [h2]⟩
theorem litK_ok {ty : TypeId} {len : Nat} {parts : Array (Nat × Operand)} {o : Oper} {K : St → Option R} {r : R} (ho : o.op = .buildSlice ty len parts) (h : litK P st o.dst ty len parts.toList K = some r) : ∃ st', K st' = some r ∧ StepOK P C o st st' := by
  unfold litK at h
  split at h
  · rename_i e hu
    split at h
    · rename_i t inf ht hinf
      split at h
      · rename_i hs
        split at h
        · rename_i z hz
          split at h
          · rename_i x0 hx0
            split at h
            · rename_i x hx
              refine ⟨_, h, fun m0 w0 E a w Kc Q hg hk => ?_⟩
              have r0 : rep E (many len t) x0 (if len * inf.size = 0 then [] else ((Array.range (len * inf.size)).map (z.cells[· % z.cells.size]!)).toList) := by
                obtain ⟨c, e', q⟩ := ofCells_ok E _ _ _ _ hx0
                rw [List.append_nil] at e'
                rw [e']; exact q
              obtain ⟨cs', hr', hfill⟩ := setParts_ok (place' := fun i => some (i * inf.size, inf.size)) hg.fr (fun i o n u hpl => by
                simp only [Option.some.injEq, Prod.mk.injEq] at hpl
                obtain ⟨rfl, rfl, _⟩ := hpl
                rfl) parts.toList x0 x _ (fun _ _ _ _ => trivial) hx r0
              obtain ⟨hreps, hcl⟩ := chain_reps len x cs' hr'
              have hsz := reps_length _ _ hreps
              have hrun : (Instr.buildSlice ty len (parts.map fun (i, x) => (i, a.eval x))).run P w = .ok (.slice (some ⟨w.heap.size, 0, none⟩) len len) { w with heap := w.heap.push (.cells cs'.toArray e) } := by
                unfold Instr.buildSlice
                simp only [Sem.run_bind, run_underlying hu, Result.andThen_ok, run_sizeOf' hinf]
                rw [if_neg hs.2.2]
                by_cases h0 : len * inf.size = 0
                · rw [if_pos h0] at hfill ⊢
                  have hinit : (Array.range (len * inf.size)).map ((#[] : Array Value)[· % (#[] : Array Value).size]!) = ([] : List Value).toArray := by
                    rw [h0]; simp
                  simp only [Sem.run_bind, Sem.run_pure, Result.andThen_ok]
                  rw [hinit, Array.toList_map, hfill]
                  simp only [newRow, Sem.run_bind, run_newObj, Sem.run_pure, Result.andThen_ok]
                · rw [if_neg h0] at hfill ⊢
                  rw [Array.toArray_toList] at hfill
                  simp only [Sem.run_bind, run_zeroValue hinf hz, Sem.run_pure, Result.andThen_ok]
                  rw [Array.toList_map, hfill]
                  simp only [newRow, Sem.run_bind, run_newObj, Sem.run_pure, Result.andThen_ok]
              have hex : (execOp a.eval o).run P w = .ok (.value (.slice (some ⟨w.heap.size, 0, none⟩) len len)) { w with heap := w.heap.push (.cells cs'.toArray e) } := by
                unfold execOp
                simp only [ho]
                rw [Sem.run_bind, hrun]; rfl
              have hlen : len ≤ maxLen := by
                have h1 := hs.2.2
                have h2 : len * 1 ≤ len * inf.size := Nat.mul_le_mul_left _ hs.2.1
                unfold maxLen; omega
              obtain ⟨E', hle, hb, hτ, hg'⟩ := hg.new (bx := .arr e t (chain len t x)) (nβ := some w.heap.size) (nτ := some (.slice (some ⟨w.heap.size, 0, none⟩) len len)) (push_chg (.cells cs'.toArray e)) (fun b hb => by obtain rfl := Option.some.inj hb; simp) (fun E' hle hm hb ht hnone =>
                ⟨_, cs', ht, by
                  rw [hcl]
                  have := World.ownsRow_lit (base := 0) (e := e) (size := t.size) w cs'.toArray len (Nat.zero_le _) hlen (by rw [List.size_toArray, hsz, hcl])
                  exact this, reps_mono hle _ _ hreps, hb, fun g j q => by obtain rfl := Option.some.inj q; rw [hm]; exact hnone j⟩)
              unfold Oper.wp
              rw [hex]
              have := hg'.putS o.dst (s := .v ⟨.sl st.b.length t, ()⟩) (v := .slice (some ⟨w.heap.size, 0, none⟩) len len) ⟨[_], ⟨_, _, _, hτ, rfl⟩, rfl⟩ a rfl
              rw [put_b] at this
              exact hk _ E' _ this
            · cases h
          · cases h
        · cases h
      · cases h
    · cases h
  · cases h

/-- Behind a call that works in place. -/
theorem GR.inpl {tmps : Array Value} {k : Nat} {e : TypeId} {t : Ty} {xs ys : List t.den} {v : Value} {l' : List Value} {m' : Mem} {w' : World} (h : GR C m0 w0 E st tmps w) (hb : st.b[k]? = some (some (.arr e t xs))) (hτ : E.τ k = some v) (hβ : E.β k = v.ownBlock)
    (hmv : ∀ g j, v.ownBlock = some g → E.m g j = none) (hc : ChgX (fun b => v.ownBlock = some b) C E.m w m' w') (hi : Inv m' w') (ho : w'.ownsRow 0 e t.size v ys.length l') (hr : reps { E with m := m' } t ys l') :
    GR C m0 w0 { E with m := m' } ⟨st.t, st.b.set k (some (.arr e t ys))⟩ tmps w' := by
  have hle : E.le { E with m := m' } := Env.le_m (hc.sub h.fr.inv)
  have hvl : ∀ g, v.ownBlock = some g → g < w.heap.size := fun g q => h.lt k g (hβ.trans q)
  have at_ : ∀ j (c : Bx), (st.b.set k (some (.arr e t ys)))[j]? = some (some c) → (j = k ∧ c = .arr e t ys) ∨ (j ≠ k ∧ st.b[j]? = some (some c)) := fun j c hc => by
    rw [List.getElem?_set] at hc
    by_cases hij : k = j
    · rw [if_pos hij] at hc
      split at hc
      · simp only [Option.some.injEq] at hc; exact .inl ⟨hij.symm, hc.symm⟩
      · cases hc
    · rw [if_neg hij] at hc; exact .inr ⟨fun q => hij q.symm, hc⟩
  have old : ∀ j b, j ≠ k → E.β j = some b → w'.heap[b]? = w.heap[b]? ∧ m' b = E.m b := fun j b hj hbj => ⟨hc.heap b (h.lt j b hbj) (fun q => hj (h.fr.inj j k b hbj (hβ.trans q))), hc.mem b (h.lt j b hbj)⟩
  refine ⟨⟨h.fr.len, fun i s hx hs => (h.fr.slots i s hx hs).mono hle, fun j tv hj => ?_, fun j e2 u zs hj => ?_, h.fr.inj, hi⟩, h.chg.trans hc (fun b hb' q => by have := h.own k b (hβ.trans q); omega), h.own, fun i b hb => Nat.lt_of_lt_of_le (h.lt i b hb) hc.size, fun i hi' => h.top i (by simpa using hi'), C.mono hle.m h.gl⟩
  · rcases at_ j _ hj with ⟨_, q⟩ | ⟨hjk, h1⟩
    · cases q
    · exact (h.fr.boxes j tv h1).keep hle (old j · hjk)
  · rcases at_ j _ hj with ⟨rfl, q⟩ | ⟨hjk, h1⟩
    · simp only [Bx.arr.injEq] at q
      obtain ⟨rfl, rfl, q⟩ := q
      obtain rfl := eq_of_heq q
      exact ⟨v, l', hτ, ho, hr, hβ, fun g i q => by
        show m' g i = none
        rw [hc.mem g (hvl g q)]; exact hmv g i q⟩
    · exact (h.fr.arrs j e2 u zs h1).keep hle rfl (old j · hjk)
theorem inplK_ok {sp : Specs} (hsp : ∀ g s, sp g = some s → SoundX P C g s) {n : Nat} {o : Oper} {c : Call} {f : Operand} {K : St → Option R} {r : R} (hoc : o.op = .call c) (hcf : c.callee = .value f) (h : inplK sp n st o.dst f c.args.toList K = some (some r)) : ∃ st', K st' = some r ∧ StepOK P C o st st' := by
  unfold inplK at h
  split at h
  · rename_i g u x rest hg hargs
    split at h
    · rename_i s hs
      have h := Option.some.inj h
      split at h
      · rename_i k t y0 y hx hy
        split at h
        · rename_i e t' xs hb
          split at h
          · rename_i xs2 hcast
            split at h
            · rename_i hcc
              obtain ⟨rfl, rfl, hpos⟩ := hcc
              obtain ⟨ys, hys, h⟩ := bind_some h
              refine ⟨_, h, fun m0 w0 E a w Kc Q hg' hk => ?_⟩
              have hlist : (⟨.list t', xs⟩ : TV) = ⟨.list s.t, xs2⟩ := by
                unfold castTV at hcast
                split at hcast
                · rename_i hh
                  simp only [Ty.list.injEq] at hh
                  subst hh
                  simp only [Option.some.injEq] at hcast
                  rw [hcast]
                · simp [castU] at hcast
              simp only [TV.mk.injEq, Ty.list.injEq] at hlist
              obtain ⟨rfl, hxx⟩ := hlist
              obtain rfl := eq_of_heq hxx
              have hso : SoundI P C g s := hsp g (.i s) hs
              obtain ⟨bs, hbs, hfv⟩ := vrep_fn (opd_ok hg'.fr (fun _ _ => trivial) hg)
              obtain rfl : bs = [] := hbs
              obtain ⟨A, m, cap, hxv, hτ⟩ := vrep_sl (opd_ok hg'.fr (fun _ _ => trivial) hx)
              obtain ⟨v, l, hτ2, ho, hr, hβ, hm⟩ := hg'.fr.arrs k s.e s.t xs hb
              have hv : a.eval x = v := by rw [hxv]; exact Option.some.inj (hτ.symm.trans hτ2)
              have hvals := argsT_ok hg'.fr s.as (rest.map .inl) y _ (fun _ _ _ _ => trivial) (srcs_inl (E := E) (a := a) rest) hy
              unfold Oper.wp
              have hex : (execOp a.eval o).run P w = .ok (.enter g (v :: rest.map a.eval).toArray) w := by
                unfold execOp
                simp only [hoc, resolve, hcf, hfv, Deferred.ofValue, Sem.run_bind, Sem.run_pure, Result.andThen_ok, invoke]
                have : ((unflat .unit []).take 0).toArray ++ c.args.map a.eval ++ ((unflat .unit []).drop 0).toArray = (v :: rest.map a.eval).toArray := by
                  apply Array.ext'; simp [hargs, hv, unflat]
                rw [this]
                exact hso.enter _ _
              rw [hex]
              refine (hso.calls n xs y ys hys E.m E.β E.τ w v l _ hg'.fr.inv hg'.gl hvals ho hr hm).mono ?_
              rintro e' w' ⟨m', l', rfl, hc, hi, ho', hr'⟩
              exact hk _ _ w' ((hg'.inpl hb hτ2 hβ hm hc hi ho' hr').putS o.dst (s := .junk) (v := .tuple #[]) trivial a rfl)
            · cases h
          · cases h
        · cases h
      · cases h
    · cases h
  · cases h

/-- Behind a call whose result is an array of the caller's own. -/
theorem ownK_ok {sp : Specs} (hsp : ∀ g s, sp g = some s → SoundX P C g s) {n : Nat} {o : Oper} {c : Call} {f : Operand} {K : St → Option R} {r : R} (hoc : o.op = .call c) (hcf : c.callee = .value f) (h : ownK sp n st o.dst f c.args.toList K = some (some r)) : ∃ st', K st' = some r ∧ StepOK P C o st st' := by
  unfold ownK at h
  split at h
  · rename_i g nf b0 u hg
    split at h
    · rename_i s hs
      have h := Option.some.inj h
      split at h
      · rename_i y hy
        obtain ⟨z, hz, h⟩ := bind_some h
        refine ⟨_, h, fun m0 w0 E a w Kc Q hg' hk => ?_⟩
        have hso : SoundO P C g s := hsp g (.o s) hs
        obtain ⟨bs, hbs, hfv⟩ := vrep_fn (opd_ok hg'.fr (fun _ _ => trivial) hg)
        have hcs := comps_ok (a := a) b0 u bs hbs
        obtain ⟨ht1, ht2⟩ := srcs_take nf _ _ hcs
        have hsrc := srcs_append _ _ _ _ (srcs_append _ _ _ _ ht1 (srcs_inl (E := E) (a := a) c.args.toList)) ht2
        have hvals := argsT_ok hg'.fr s.ps _ y _ (fun _ _ _ _ => trivial) hsrc hy
        unfold Oper.wp
        have hex : (execOp a.eval o).run P w = .ok (.enter g ((unflat b0 bs).take nf ++ c.args.toList.map a.eval ++ (unflat b0 bs).drop nf).toArray) w := by
          unfold execOp
          simp only [hoc, resolve, hcf, hfv, Deferred.ofValue, Sem.run_bind, Sem.run_pure, Result.andThen_ok, invoke]
          have : ((unflat b0 bs).take nf).toArray ++ c.args.map a.eval ++ ((unflat b0 bs).drop nf).toArray = ((unflat b0 bs).take nf ++ c.args.toList.map a.eval ++ (unflat b0 bs).drop nf).toArray := by
            apply Array.ext'; simp
          rw [this]
          exact hso.enter _ _
        rw [hex]
        refine (hso.calls n y z hz E.m E.β E.τ w _ hg'.fr.inv hg'.gl hvals).mono ?_
        rintro e' w' ⟨v, vs', l, m', rfl, hc, hi, ho, hr, hvs, hown⟩
        obtain ⟨E', hle, hβ, hτ, hgn⟩ := hg'.newG (bx := .arr s.e s.t z.1) (nβ := v.ownBlock) (nτ := some v) hc hi (fun b hb => ⟨(hown b hb).1, (ho.lt b hb).2⟩) (fun E' hle hm hβ hτ =>
          ⟨v, l, hτ, ho, reps_mono hle _ _ hr, hβ, fun b j hb => by rw [hm]; exact (hown b hb).2 j⟩)
        have hsv : SlotRep E' (retSlot (.pair (.sl st.b.length s.t) s.rs) ((), z.2)) (retV (v :: vs')) := by
          refine vals_ret (.pair (.sl st.b.length s.t) s.rs) ((), z.2) (v :: vs') ⟨v, vs', rfl, ?_, vals_mono hle _ _ _ hvs⟩
          rcases ho.2 with ⟨rfl, _⟩ | ⟨b, cap, cur, rfl, _⟩
          · exact ⟨[_], ⟨none, 0, 0, hτ, rfl⟩, rfl⟩
          · exact ⟨[_], ⟨_, _, _, hτ, rfl⟩, rfl⟩
        have := hgn.putS o.dst hsv a rfl
        rw [put_b] at this
        exact hk _ E' w' this
      · cases h
    · cases h
  · cases h

theorem StepOK.frz {o : Oper} {st' : St} {p : Bool} {l : List Operand} (h : StepOK P C o (st.frzL p l) st') : StepOK P C o st st' := fun m0 w0 E a w Kc Q hg hkc => by
  obtain ⟨E1, hg1⟩ := GR.frzL p l E st hg
  exact h m0 w0 E1 a w Kc Q hg1 hkc
theorem stepF_ok {sp : Specs} (hsp : ∀ g s, sp g = some s → SoundX P C g s) {n : Nat} {o : Oper} {K : St → Option R} {r : R} (h : stepF P sp n st o K = some r) :
    ∃ st', K st' = some r ∧ StepOK P C o st st' := by
  have pure_ : (pureK P sp n st o fun s => K (st.put o.dst s)) = some r → ∃ st', K st' = some r ∧ StepOK P C o st st' := fun h => by
    obtain ⟨s, hs, hok⟩ := pureK_ok hsp h
    exact ⟨_, hs, hok.step⟩
  unfold stepF at h
  split at h
  · rename_i ty x ho
    split at h
    · rename_i inf tv hinf htv
      split at h
      · rename_i hs
        refine ⟨_, h, fun m0 w0 E a w Kc Q hg hk => ?_⟩
        have hv := opdX_ok hg.fr (fun _ _ => trivial) htv
        have hrun : (execOp a.eval o).run P w = .ok (.value (.pointer (some ⟨w.heap.size, 0, none⟩))) { w with heap := w.heap.push (.cells (a.eval x).cells ty) } := by
          unfold execOp
          simp only [ho, Instr.box, newVar, newRow, Sem.run_bind, run_newObj, Sem.run_pure, Result.andThen_ok]
        unfold Oper.wp
        rw [hrun]
        obtain ⟨E', hg'⟩ := hg.box (o := .cells (a.eval x).cells ty) (cs := (a.eval x).cells.toList) (e := ty) (by simp) hv.cells o.dst rfl
        exact hk _ E' _ hg'
      · cases h
    · cases h
  · rename_i ty ho
    split at h
    · rename_i t inf ht hinf
      split at h
      · rename_i z hz
        split at h
        · rename_i x hx
          refine ⟨_, h, fun m0 w0 E a w Kc Q hg hk => ?_⟩
          have hrun : (execOp a.eval o).run P w = .ok (.value (.pointer (some ⟨w.heap.size, 0, none⟩))) { w with heap := w.heap.push (.cells z.cells ty) } := by
            unfold execOp
            simp only [ho, Instr.alloc, Sem.run_bind, run_zeroValue hinf hz, newVar, newRow, run_newObj, Sem.run_pure, Result.andThen_ok]
          unfold Oper.wp
          rw [hrun]
          obtain ⟨E', hg'⟩ := hg.box (o := .cells z.cells ty) (cs := z.cells.toList) (e := ty) (tv := ⟨t, x⟩) (by simp) (zero_rep E hx) o.dst rfl
          exact hk _ E' _ hg'
        · cases h
      · cases h
    · cases h
  · rename_i ty x v ho
    split at h
    · rename_i i q t u tv inf hx hv hinf
      split at h
      · rename_i c hc
        split at h
        · rename_i hs
          split at h
          · rename_i y hy
            refine ⟨_, h, fun m0 w0 E a w Kc Q hg hk => ?_⟩
            obtain ⟨b, hb, hpx⟩ := vrep_ptr (opd_ok hg.fr (fun _ _ => trivial) hx)
            obtain ⟨w', hrun', hg'⟩ := hg.store hc hy (opdX_ok hg.fr (fun _ _ => trivial) hv) hinf hs hb
            have hrun : (execOp a.eval o).run P w = .ok .skip w' := by
              unfold execOp
              simp only [ho, hpx, Instr.storeAt, Instr.sureAddr, Sem.run_bind, Sem.run_pure, Result.andThen_ok, hrun']
            unfold Oper.wp
            rw [hrun]
            have := hg'.putS o.dst (s := .undef) (v := undef) rfl a rfl
            rw [put_b] at this
            exact hk undef E w' this
          · cases h
        · cases h
      · cases h
    · rename_i k q u t i tv inf hx hv hinf
      split at h
      · rename_i e u' xs hc
        split at h
        · rename_i hs
          obtain ⟨hu, hs⟩ := hs
          subst hu
          obtain ⟨x0, hx0, h⟩ := bind_some h
          split at h
          · rename_i y hy
            refine ⟨_, h, fun m0 w0 E a w Kc Q hg hk => ?_⟩
            obtain ⟨b, hb, hpx⟩ := vrep_ep (opd_ok hg.fr (fun _ _ => trivial) hx)
            obtain ⟨w', hrun', hg'⟩ := hg.storeE hc hx0 hy (opdX_ok hg.fr (fun _ _ => trivial) hv) hinf hs hb
            have hrun : (execOp a.eval o).run P w = .ok .skip w' := by
              unfold execOp
              simp only [ho, hpx, Instr.storeAt, Instr.sureAddr, Sem.run_bind, Sem.run_pure, Result.andThen_ok, hrun']
            unfold Oper.wp
            rw [hrun]
            have := hg'.putS o.dst (s := .undef) (v := undef) rfl a rfl
            rw [put_b] at this
            exact hk undef E w' this
          · cases h
        · cases h
      · cases h
    · cases h
  · rename_i ty len parts ho
    exact litK_ok ho h
  · rename_i c ho
    split at h
    · rename_i hcb
      exact appendK_ok ho hcb h
    · rename_i f hcf
      split at h
      · rename_i q hq
        subst h
        exact inplK_ok hsp ho hcf hq
      · split at h
        · rename_i q hq
          subst h
          obtain ⟨st', hst, hok⟩ := ownK_ok hsp ho hcf hq
          exact ⟨st', hst, hok.frz⟩
        · obtain ⟨s, hs, hok⟩ := pureK_ok hsp h
          exact ⟨_, hs, hok.step.frz⟩
    · exact pure_ h
  · exact pure_ h

theorem stepK_ok {sp : Specs} (hsp : ∀ g s, sp g = some s → SoundX P C g s) {n : Nat} {o : Oper} {K : St → Option R} {r : R} (h : stepK P sp n st o K = some r) :
    ∃ st', K st' = some r ∧ StepOK P C o st st' := by
  obtain ⟨st', hk, hok⟩ := stepF_ok hsp h
  exact ⟨st', hk, hok.frz⟩

theorem guardK_ok {ops : Array Oper} {o : Oper} {K : Bool → Option R} {r : R} (h : guardK ops st o K = some r) :
    ∃ b, K b = some r ∧ ∀ (X : Nat → Prop) (E : Env) (tmps : Array Value) (w : World), FR X E st tmps w → (∀ j want t, o.guard = some (j, want) → (ops[j]?).bind (·.dst) = some t → X t) → Region.wanted o (yielded ops tmps) = b := by
  unfold guardK at h
  split at h
  · rename_i hg
    exact ⟨true, h, fun _ _ _ _ _ _ => by unfold Region.wanted; simp [hg]⟩
  · rename_i j want hg
    split at h
    · rename_i t ht
      have get : ∀ (X : Nat → Prop) (E : Env) (tmps : Array Value) (w : World) (s : Slot), FR X E st tmps w → X t → st.t[t]? = some s → ∃ v, tmps[t]? = some v ∧ SlotRep E s v := fun X E tmps w s hf hX hs => by
        have h1 := hf.slots t s hX hs
        have hlt : t < tmps.size := by rw [← hf.len]; exact (List.getElem?_eq_some_iff.1 hs).1
        refine ⟨tmps[t], Array.getElem?_eq_getElem hlt, ?_⟩
        rw [Array.getD_eq_getD_getElem?, Array.getElem?_eq_getElem hlt] at h1
        exact h1
      split at h
      · rename_i hs
        refine ⟨false, h, fun X E tmps w hf hX => ?_⟩
        obtain ⟨v, hv, rfl⟩ := get X E tmps w _ hf (hX _ _ _ hg ht) hs
        unfold Region.wanted yielded
        simp [hg, ht, hv, undef]
      · rename_i b hs
        have hw : ∀ (X : Nat → Prop) (E : Env) (tmps : Array Value) (w : World), FR X E st tmps w → X t → Region.wanted o (yielded ops tmps) = (b == want) := fun X E tmps w hf hX => by
          obtain ⟨v, hv, hr⟩ := get X E tmps w _ hf hX hs
          obtain rfl := vrep_bool hr
          unfold Region.wanted yielded
          simp [hg, ht, hv]
        rcases bif_some h with ⟨hb, h⟩ | ⟨hb, h⟩
        · exact ⟨true, h, fun X E tmps w hf hX => by rw [hw X E tmps w hf (hX _ _ _ hg ht), hb]⟩
        · exact ⟨false, h, fun X E tmps w hf hX => by rw [hw X E tmps w hf (hX _ _ _ hg ht), hb]⟩
      · cases h
    · cases h

theorem FR.know {X : Nat → Prop} {tmps : Array Value} {t : Tmp} {b : Bool} (h : FR X E st tmps w) (hv : tmps.getD t undef = .bool b) : FR X E (st.know t b) tmps w := by
  refine ⟨by show (st.t.set t _).length = _; rw [List.length_set]; exact h.len, fun i s hi hs => ?_, h.boxes, h.arrs, h.inj, h.inv⟩
  have hs' : (st.t.set t (.v ⟨.bool, b⟩))[i]? = some s := hs
  rw [List.getElem?_set] at hs'
  split at hs'
  · rename_i e; subst e
    split at hs'
    · obtain rfl := Option.some.inj hs'
      rw [hv]; exact mkBool _ _
    · cases hs'
  · exact h.slots i s hi hs'
theorem GR.know {t : Tmp} {b : Bool} {tmps : Array Value} (h : GR C m0 w0 E st tmps w) (hv : tmps.getD t undef = .bool b) : GR C m0 w0 E (st.know t b) tmps w := ⟨h.fr.know hv, h.chg, h.own, h.lt, h.top, h.gl⟩
theorem GR.knowO {x : Operand} {b : Bool} (h : GR C m0 w0 E st a.tmps w) (hv : a.eval x = .bool b) : GR C m0 w0 E (st.knowO x b) a.tmps w := by
  unfold St.knowO
  split
  · exact h.know hv
  · exact h

theorem guardS_ok {ops : Array Oper} {o : Oper} {K : Bool → St → Option R} {r : R} (h : guardS ops st o K = some r) (hg : GR C m0 w0 E st a.tmps w) :
    ∃ b st', K b st' = some r ∧ GR C m0 w0 E st' a.tmps w ∧ Region.wanted o (yielded ops a.tmps) = b := by
  unfold guardS at h
  split at h
  · rename_i hg'
    exact ⟨true, st, h, hg, by unfold Region.wanted; simp [hg']⟩
  · rename_i j want hgd
    split at h
    · rename_i t ht
      have get : ∀ (s : Slot), st.t[t]? = some s → ∃ v, a.tmps[t]? = some v ∧ a.tmps.getD t undef = v ∧ SlotRep E s v := fun s hs => by
        have h1 := hg.fr.slots t s trivial hs
        have hlt : t < a.tmps.size := by rw [← hg.fr.len]; exact (List.getElem?_eq_some_iff.1 hs).1
        refine ⟨a.tmps[t], Array.getElem?_eq_getElem hlt, ?_, ?_⟩
        · rw [Array.getD_eq_getD_getElem?, Array.getElem?_eq_getElem hlt]; rfl
        · rw [Array.getD_eq_getD_getElem?, Array.getElem?_eq_getElem hlt] at h1
          exact h1
      split at h
      · rename_i hs
        obtain ⟨v, hv, _, rfl⟩ := get _ hs
        refine ⟨false, st, h, hg, ?_⟩
        unfold Region.wanted yielded
        simp [hgd, ht, hv, undef]
      · rename_i b hs
        obtain ⟨v, hv, hv', hr⟩ := get _ hs
        obtain rfl := vrep_bool hr
        have hw : Region.wanted o (yielded ops a.tmps) = (b == want) := by
          unfold Region.wanted yielded
          simp [hgd, ht, hv]
        rcases bif_some h with ⟨hb, h⟩ | ⟨hb, h⟩
        · exact ⟨_, _, h, hg.know (by rw [hv', hb]), by rw [hw, hb]⟩
        · exact ⟨_, _, h, hg.know (by rw [hv', hb]), by rw [hw, hb]⟩
      · cases h
    · cases h

theorem GR.put_undef (h : GR C m0 w0 E st a.tmps w) (d : Option Tmp) : GR C m0 w0 E (st.put d .undef) (a.put d undef).tmps w :=
  ⟨h.fr.put d (s := .undef) (v := undef) rfl a rfl, h.chg, h.own, h.lt, fun i hi => h.top i (by cases d <;> exact hi), h.gl⟩

theorem put_defers (a : Act) (d : Option Tmp) (v : Value) : (a.put d v).defers = a.defers := by cases d <;> rfl

theorem opsK_ok {sp : Specs} (hsp : ∀ g s, sp g = some s → SoundX P C g s) {n : Nat} {ops : Array Oper} {K : St → Option R} {r : R} {Q : Exit → Act → World → Prop} {ds : List Deferred}
    (hQ : ∀ st' E' a' w', K st' = some r → GR C m0 w0 E' st' a'.tmps w' → a'.defers = ds → Q .normal a' w') :
    ∀ (l : List Oper) (k : Nat) (st : St) (E : Env) (a : Act) (w : World), ops.toList.drop k = l → opsK P sp n ops l st K = some r → GR C m0 w0 E st a.tmps w → a.defers = ds →
      wpOps P ops Q (List.range' k l.length) a w
  | [], k, st, E, a, w, _, h, hg, hd => hQ st E a w h hg hd
  | o :: l, k, st, E, a, w, hk, h, hg, hd => by
    have hko : ops[k]? = some o := by
      have : (ops.toList.drop k)[0]? = some o := by rw [hk]; rfl
      rw [List.getElem?_drop] at this
      simpa using this
    have hk' : ops.toList.drop (k + 1) = l := by
      rw [← List.drop_drop, hk]; rfl
    simp only [opsK] at h
    obtain ⟨b, st, hb, hg, hw'⟩ := guardS_ok h hg
    show wpOps P ops Q (k :: List.range' (k + 1) l.length) a w
    simp only [wpOps, hko]
    rw [hw']
    rcases bif_some hb with ⟨rfl, h2⟩ | ⟨rfl, h2⟩
    · rw [if_pos rfl]
      obtain ⟨st', hst', hok⟩ := stepK_ok hsp h2
      refine .inl (hok m0 w0 E a w _ Q hg fun v E' w' hg' => ?_)
      exact opsK_ok hsp hQ l (k + 1) st' E' _ w' hk' hst' hg' (by rw [put_defers]; exact hd)
    · rw [if_neg (by simp)]
      exact opsK_ok hsp hQ l (k + 1) _ E _ w hk' h2 (hg.put_undef o.dst) (by rw [put_defers]; exact hd)
end
end Go.Proofs.YtadamegddcadcaaGreatDoorPi

namespace Go.Proofs.YtadamegddcadcaaGreatDoorPi
open Go
section
variable {P : Program} {C : Ctx} {m0 : Mem} {w0 : World} {R : Type}

theorem dimB_get {l : List Nat} : ∀ (b : List (Option Bx)) (i k : Nat) (c : Bx), (dimB l i b)[k]? = some (some c) → i + k ∈ l ∧ b[k]? = some (some c)
  | [], _, _, _, h => by simp [dimB] at h
  | x :: b, i, 0, c, h => by
    simp only [dimB, List.getElem?_cons_zero, Option.some.injEq] at h
    split at h
    · rename_i hl
      exact ⟨by simpa using hl, by simp [h]⟩
    · cases h
  | x :: b, i, k + 1, c, h => by
    simp only [dimB, List.getElem?_cons_succ] at h
    obtain ⟨h1, h2⟩ := dimB_get b (i + 1) k c h
    exact ⟨by rw [show i + (k + 1) = i + 1 + k by omega]; exact h1, by simpa using h2⟩


theorem on_bxs {p : Nat → Bool} : ∀ t : Ty, (∀ q, q ∈ t.bxs → p q = true) → t.on p = true
  | .unit, _ | .bool, _ | .int _, _ | .str, _ => rfl
  | .pair a b, h => by
    simp only [Ty.bxs, List.mem_append] at h
    simp [Ty.on, on_bxs a (fun q hq => h q (.inl hq)), on_bxs b (fun q hq => h q (.inr hq))]
  | .list t, h | .nl t, h | .ref t, h | .opt t, h | .fn _ _ t, h => by simp only [Ty.bxs] at h; simp [Ty.on, on_bxs t h]
  | .sl k t, h => by
    simp only [Ty.bxs, List.mem_cons] at h
    simp [Ty.on, h k (.inl rfl), on_bxs t (fun q hq => h q (.inr hq))]
  | .ptr i _ _, h | .ep i _ _ _, h => by simp only [Ty.bxs, List.mem_singleton] at h; simp [Ty.on, h i rfl]
theorem bxs_on {p : Nat → Bool} : ∀ t : Ty, t.on p = true → ∀ q, q ∈ t.bxs → p q = true
  | .unit, _, _, hq | .bool, _, _, hq | .int _, _, _, hq | .str, _, _, hq => by cases hq
  | .pair a b, h, q, hq => by
    simp only [Ty.on, Bool.and_eq_true] at h
    simp only [Ty.bxs, List.mem_append] at hq
    exact hq.elim (bxs_on a h.1 q) (bxs_on b h.2 q)
  | .list t, h, q, hq | .nl t, h, q, hq | .ref t, h, q, hq | .opt t, h, q, hq | .fn _ _ t, h, q, hq => by simp only [Ty.on] at h; simp only [Ty.bxs] at hq; exact bxs_on t h q hq
  | .sl k t, h, q, hq => by
    simp only [Ty.on, Bool.and_eq_true] at h
    simp only [Ty.bxs, List.mem_cons] at hq
    rcases hq with rfl | hq
    · exact h.1
    · exact bxs_on t h.2 q hq
  | .ptr i _ _, h, q, hq | .ep i _ _ _, h, q, hq => by simp only [Ty.bxs, List.mem_singleton] at hq; subst hq; exact h
theorem offS_keep {p : Nat → Bool} {s : Slot} (h : ∀ q, q ∈ s.bxs → p q = true) : offS p s = s := by
  cases s with
  | v x => simp only [offS]; rw [if_pos (on_bxs x.t h)]
  | tup t x => simp only [offS]; rw [if_pos (on_bxs t h)]
  | _ => rfl
theorem offS_or (p : Nat → Bool) (s : Slot) : offS p s = .junk ∨ (offS p s = s ∧ ∀ q, q ∈ s.bxs → p q = true) := by
  cases s with
  | v x =>
    simp only [offS]
    split
    · rename_i h; exact .inr ⟨rfl, bxs_on x.t h⟩
    · exact .inl rfl
  | tup t x =>
    simp only [offS]
    split
    · rename_i h; exact .inr ⟨rfl, bxs_on t h⟩
    · exact .inl rfl
  | junk => exact .inl rfl
  | undef => exact .inr ⟨rfl, fun q hq => by cases hq⟩
theorem offB_keep {p : Nat → Bool} {c : Bx} (h : ∀ q, q ∈ c.bxs → p q = true) : offB p (some c) = some c := by
  cases c with
  | one x => simp only [offB]; rw [if_pos (on_bxs x.t h)]
  | arr e t xs => simp only [offB]; rw [if_pos (on_bxs t h)]
theorem offB_some {p : Nat → Bool} {o : Option Bx} {c : Bx} (h : offB p o = some c) : o = some c := by
  cases c with
  | one x => exact (offB_one h).1
  | arr e t xs => exact (offB_arr h).1

/-- What an operation with an effect does, whatever the slots that it does not look at hold. -/
def EffOK (P : Program) (C : Ctx) (o : Oper) (st : St) (f : Eff) : Prop :=
  ∀ (m0 : Mem) (w0 : World) (E : Env) (a : Act) (w : World) (st2 : St) (Kc : Act → World → Prop) (Q : Exit → Act → World → Prop), FR (· ∈ reads o) E st a.tmps w → st2.b = st.b → GR C m0 w0 E st2 a.tmps w →
    (∀ v E' w', GR C m0 w0 E' (f.ap o.dst st2) (a.put o.dst v).tmps w' → Kc (a.put o.dst v) w') → o.wp P a w Kc Q

theorem storeE_ok {st : St} {o : Oper} {ty : TypeId} {x v : Operand} {K : Eff → Option R} {r : R} (ho : o.op = .store ty x v) (h : storeE P st ty x v K = some r) : ∃ f, K f = some r ∧ EffOK P C o st f := by
  have hR : ∀ {x : Operand}, x ∈ o.op.operands → ∀ u, x = .tmp u → u ∈ reads o := fun hx => reads_mem hx
  unfold storeE at h
  split at h
  · rename_i i q t u tv inf hx hv hinf
    split at h
    · rename_i c hc
      split at h
      · rename_i hs
        split at h
        · rename_i y hy
          refine ⟨_, h, fun m0 w0 E a w st2 Kc Q hf h2 hg hk => ?_⟩
          obtain ⟨b, hb, hpx⟩ := vrep_ptr (opd_ok hf (hR (by simp [ho, Op.operands])) hx)
          obtain ⟨w', hrun', hg'⟩ := hg.store (by rw [h2]; exact hc) hy (opdX_ok hf (hR (by simp [ho, Op.operands])) hv) hinf hs hb
          have hrun : (execOp a.eval o).run P w = .ok .skip w' := by
            unfold execOp
            simp only [ho, hpx, Instr.storeAt, Instr.sureAddr, Sem.run_bind, Sem.run_pure, Result.andThen_ok, hrun']
          unfold Oper.wp
          rw [hrun]
          have := hg'.putS o.dst (s := .undef) (v := undef) rfl a rfl
          rw [put_b] at this
          exact hk undef E w' this
        · cases h
      · cases h
    · cases h
  · rename_i k q u t i tv inf hx hv hinf
    split at h
    · rename_i e u' xs hc
      split at h
      · rename_i hs
        obtain ⟨hu, hs⟩ := hs
        subst hu
        obtain ⟨x0, hx0, h⟩ := bind_some h
        split at h
        · rename_i y hy
          refine ⟨_, h, fun m0 w0 E a w st2 Kc Q hf h2 hg hk => ?_⟩
          obtain ⟨b, hb, hpx⟩ := vrep_ep (opd_ok hf (hR (by simp [ho, Op.operands])) hx)
          obtain ⟨w', hrun', hg'⟩ := hg.storeE (by rw [h2]; exact hc) hx0 hy (opdX_ok hf (hR (by simp [ho, Op.operands])) hv) hinf hs hb
          have hrun : (execOp a.eval o).run P w = .ok .skip w' := by
            unfold execOp
            simp only [ho, hpx, Instr.storeAt, Instr.sureAddr, Sem.run_bind, Sem.run_pure, Result.andThen_ok, hrun']
          unfold Oper.wp
          rw [hrun]
          have := hg'.putS o.dst (s := .undef) (v := undef) rfl a rfl
          rw [put_b] at this
          exact hk undef E w' this
        · cases h
      · cases h
    · cases h
  · cases h

theorem litE_ok {st : St} {ty : TypeId} {len : Nat} {parts : Array (Nat × Operand)} {o : Oper} {K : Eff → Option R} {r : R} (ho : o.op = .buildSlice ty len parts) (h : litE P st ty len parts.toList K = some r) : ∃ f, K f = some r ∧ EffOK P C o st f := by
  unfold litE at h
  split at h
  · rename_i e hu
    split at h
    · rename_i t inf ht hinf
      split at h
      · rename_i hs
        split at h
        · rename_i z hz
          split at h
          · rename_i x0 hx0
            split at h
            · rename_i x hx
              refine ⟨_, h, fun m0 w0 E a w st2 Kc Q hf h2 hg hk => ?_⟩
              have r0 : rep E (many len t) x0 (if len * inf.size = 0 then [] else ((Array.range (len * inf.size)).map (z.cells[· % z.cells.size]!)).toList) := by
                obtain ⟨c, e', q⟩ := ofCells_ok E _ _ _ _ hx0
                rw [List.append_nil] at e'
                rw [e']; exact q
              obtain ⟨cs', hr', hfill⟩ := setParts_ok (place' := fun i => some (i * inf.size, inf.size)) hf (fun i o n u hpl => by
                simp only [Option.some.injEq, Prod.mk.injEq] at hpl
                obtain ⟨rfl, rfl, _⟩ := hpl
                rfl) parts.toList x0 x _ (fun p hp u hu => reads_mem (by
                  simp only [ho, Op.operands, List.mem_toArray, List.mem_map]
                  exact ⟨p, hp, rfl⟩) u hu) hx r0
              obtain ⟨hreps, hcl⟩ := chain_reps len x cs' hr'
              have hsz := reps_length _ _ hreps
              have hrun : (Instr.buildSlice ty len (parts.map fun (i, x) => (i, a.eval x))).run P w = .ok (.slice (some ⟨w.heap.size, 0, none⟩) len len) { w with heap := w.heap.push (.cells cs'.toArray e) } := by
                unfold Instr.buildSlice
                simp only [Sem.run_bind, run_underlying hu, Result.andThen_ok, run_sizeOf' hinf]
                rw [if_neg hs.2.2]
                by_cases h0 : len * inf.size = 0
                · rw [if_pos h0] at hfill ⊢
                  have hinit : (Array.range (len * inf.size)).map ((#[] : Array Value)[· % (#[] : Array Value).size]!) = ([] : List Value).toArray := by
                    rw [h0]; simp
                  simp only [Sem.run_bind, Sem.run_pure, Result.andThen_ok]
                  rw [hinit, Array.toList_map, hfill]
                  simp only [newRow, Sem.run_bind, run_newObj, Sem.run_pure, Result.andThen_ok]
                · rw [if_neg h0] at hfill ⊢
                  rw [Array.toArray_toList] at hfill
                  simp only [Sem.run_bind, run_zeroValue hinf hz, Sem.run_pure, Result.andThen_ok]
                  rw [Array.toList_map, hfill]
                  simp only [newRow, Sem.run_bind, run_newObj, Sem.run_pure, Result.andThen_ok]
              have hex : (execOp a.eval o).run P w = .ok (.value (.slice (some ⟨w.heap.size, 0, none⟩) len len)) { w with heap := w.heap.push (.cells cs'.toArray e) } := by
                unfold execOp
                simp only [ho]
                rw [Sem.run_bind, hrun]; rfl
              have hlen : len ≤ maxLen := by
                have h1 := hs.2.2
                have h2 : len * 1 ≤ len * inf.size := Nat.mul_le_mul_left _ hs.2.1
                unfold maxLen; omega
              obtain ⟨E', hle, hb, hτ, hg'⟩ := hg.new (bx := .arr e t (chain len t x)) (nβ := some w.heap.size) (nτ := some (.slice (some ⟨w.heap.size, 0, none⟩) len len)) (push_chg (.cells cs'.toArray e)) (fun b hb => by obtain rfl := Option.some.inj hb; simp) (fun E' hle hm hb ht hnone =>
                ⟨_, cs', ht, by
                  rw [hcl]
                  have := World.ownsRow_lit (base := 0) (e := e) (size := t.size) w cs'.toArray len (Nat.zero_le _) hlen (by rw [List.size_toArray, hsz, hcl])
                  exact this, reps_mono hle _ _ hreps, hb, fun g j q => by obtain rfl := Option.some.inj q; rw [hm]; exact hnone j⟩)
              unfold Oper.wp
              rw [hex]
              have := hg'.putS o.dst (s := .v ⟨.sl st2.b.length t, ()⟩) (v := .slice (some ⟨w.heap.size, 0, none⟩) len len) ⟨[_], ⟨_, _, _, hτ, rfl⟩, rfl⟩ a rfl
              rw [put_b] at this
              refine hk _ E' _ ?_
              show GR C m0 w0 E' { (st2.put o.dst (.v ⟨.sl st.b.length t, ()⟩)) with b := st2.b ++ [some _] } _ _
              rw [← h2]; exact this
            · cases h
          · cases h
        · cases h
      · cases h
    · cases h
  · cases h

theorem appE_ok {e : TypeId} {t : Ty} {k : Nat} {xs ys : List t.den} {K : List t.den → Option R} {r : R} {ty : TypeId} (hu : P.underlying ty = some (.slice e)) (h : appE P e t k xs ys K = some r) :
    K (xs ++ ys) = some r ∧ ∀ (m0 : Mem) (w0 : World) (E : Env) (a : Act) (w : World) (st : St) (v vy : Value) (ty' : TypeId) (d : Option Tmp), GR C m0 w0 E st a.tmps w → st.b[k]? = some (some (.arr e t xs)) → E.τ k = some v → VRep E (.list t) ys vy →
      ∃ v' w' E', (Builtin.append_ #[ty, ty] ty' #[v, vy]).run P w = .ok v' w' ∧ GR C m0 w0 E' ((Eff.app k e t (xs ++ ys)).ap d st) (a.put d v').tmps w' := by
  unfold appE at h
  split at h
  · rename_i inf hinf
    split at h
    · rename_i z hz
      split at h
      · rename_i hc
        obtain ⟨hon, hs1, hs2, hs3⟩ := hc
        rcases bif_some h with ⟨hbd, h⟩ | ⟨_, h⟩
        · have hbd' : (xs.length + ys.length) * (inf.bytes + 1) ≤ 140737488355328 := by simpa using hbd
          refine ⟨h, fun m0 w0 E a w st v vy ty' d hg hb hτ hv => ?_⟩
          obtain ⟨v2, l, hτ2, ho, hr, hβ, hm⟩ := hg.fr.arrs k e t xs hb
          obtain rfl : v = v2 := Option.some.inj (hτ.symm.trans hτ2)
          have hk : k < st.b.length := (List.getElem?_eq_some_iff.1 hb).1
          have fin : ∀ v' w' news, reps E t ys news → (Builtin.append_ #[ty, ty] ty' #[v, vy]).run P w = .ok v' w' → w'.ownsRow 0 e t.size v' (xs.length + ys.length) (l ++ news) → w.grownBy w' v.ownBlock → w.drawn ≤ w'.drawn → (v'.ownBlock = v.ownBlock ∨ v'.ownBlock = some w.heap.size) →
              ∃ v' w' E', (Builtin.append_ #[ty, ty] ty' #[v, vy]).run P w = .ok v' w' ∧ GR C m0 w0 E' ((Eff.app k e t (xs ++ ys)).ap d st) (a.put d v').tmps w' := fun v' w' news hn hrun q1 q2 q3 q4 => by
            obtain ⟨E', ht', hg'⟩ := hg.app hk hon hβ hm hr hn q1 q2 q3 q4
            refine ⟨v', w', E', hrun, hg'.putS d ?_ a rfl⟩
            rcases q1.2 with ⟨rfl, _⟩ | ⟨g, cap, cur, rfl, _⟩
            · exact ⟨[_], ⟨none, 0, 0, ht', rfl⟩, rfl⟩
            · exact ⟨[_], ⟨_, _, _, ht', rfl⟩, rfl⟩
          rcases list_val hv with ⟨rfl, rfl⟩ | ⟨ad, cap, news, rfl, hnr, hnc⟩
          · have hrun := run_append_owned_none (P := P) w 0 ty ty' e inf t.size hu hinf v _ l ho
            exact fin v w [] rfl hrun (by simpa using ho) ⟨rfl, rfl, rfl, Nat.le_refl _, fun _ _ _ => rfl⟩ (Nat.le_refl _) (.inl rfl)
          · obtain ⟨v', w', hrun, q1, q2, q3, q4⟩ := app_run (P := P) (w := w) (ty := ty') (m := ys.length) (c := cap) (ad := ad) hu hinf hz hs1 (hs2.trans hs1) (hs1 ▸ hs3) ho (reps_length _ _ hnr) (fun j u hj => by
              obtain ⟨q, e1, e2⟩ := hnc j u hj
              rw [e1]; exact hg.fr.inv _ _ _ e2) (reps_oneCell _ _ hnr) hbd'
            exact fin v' w' news hnr hrun q1 q2 q3 q4
        · cases h
      · cases h
    · cases h
  · cases h

theorem appendE_ok {st : St} {o : Oper} {c : Call} {K : Eff → Option R} {r : R} (ho : o.op = .call c) (hcb : c.callee = .builtin .append) (h : appendE P st c K = some r) : ∃ f, K f = some r ∧ EffOK P C o st f := by
  unfold appendE at h
  split at h
  · rename_i s x ty ty' hargs htys
    split at h
    · rename_i hty
      subst hty
      split at h
      · rename_i e hu
        have ha : ∀ a : Act, c.args.map a.eval = #[a.eval s, a.eval x] := fun a => by
          apply Array.ext'; simp [hargs]
        have hty' : c.argTypes = #[ty, ty] := by apply Array.ext'; simp [htys]
        have hargs' : c.args = #[s, x] := by apply Array.ext'; simp [hargs]
        have hRs : ∀ u, s = .tmp u → u ∈ reads o := reads_mem (by simp [ho, Op.operands, Call.operands, hcb, hargs'])
        have hRx : ∀ u, x = .tmp u → u ∈ reads o := reads_mem (by simp [ho, Op.operands, Call.operands, hcb, hargs'])
        have hex : ∀ (a : Act) (w w' : World) (v' : Value), (Builtin.append_ #[ty, ty] o.type #[a.eval s, a.eval x]).run P w = .ok v' w' → (execOp a.eval o).run P w = .ok (.value v') w' := fun a w w' v' hrun => by
          unfold execOp
          simp only [ho, resolve, hcb, ha, hty', Sem.run_bind, Sem.run_pure, Result.andThen_ok, invoke, builtin, hrun]
        split at h
        · rename_i k t y tx hs hx
          split at h
          · rename_i ys e' t' xs hys hb
            split at h
            · rename_i he
              subst he
              split at h
              · rename_i xs2 hcast
                have hlist : (⟨.list t', xs⟩ : TV) = ⟨.list t, xs2⟩ := by
                  unfold castTV at hcast
                  split at hcast
                  · rename_i hh
                    simp only [Ty.list.injEq] at hh
                    subst hh
                    simp only [Option.some.injEq] at hcast
                    rw [hcast]
                  · simp [castU] at hcast
                simp only [TV.mk.injEq, Ty.list.injEq] at hlist
                obtain ⟨rfl, hx2⟩ := hlist
                obtain rfl := eq_of_heq hx2
                obtain ⟨hst, hok⟩ := appE_ok (C := C) hu h
                refine ⟨_, hst, fun m0 w0 E a w st2 Kc Q hf h2 hg hk => ?_⟩
                have hsv := opdN_ok hf hRs hs
                obtain ⟨A, n, cap, hv, hτ⟩ := vrep_sl hsv
                obtain ⟨v', w', E', hrun, hg'⟩ := hok m0 w0 E a w st2 (a.eval s) (a.eval x) o.type o.dst hg (by rw [h2]; exact hb) (by rw [hv]; exact hτ) (castTV_ok hys (opdN_ok hf hRx hx))
                unfold Oper.wp
                rw [hex a w w' v' hrun]
                exact hk v' E' w' hg'
              · cases h
            · cases h
          · cases h
        · rename_i t y tx hs hx
          split at h
          · rename_i ys hys
            obtain ⟨hst, hok⟩ := appE_ok (C := C) hu h
            refine ⟨_, hst, fun m0 w0 E a w st2 Kc Q hf h2 hg hk => ?_⟩
            have hsv := vrep_nl (opdN_ok hf hRs hs)
            obtain ⟨E1, hle, hτ, hg1⟩ := hg.nil e t
            have hxv := (castTV_ok hys (opdN_ok hf hRx hx)).mono hle
            have hbl : st2.b.length = st.b.length := by rw [h2]
            obtain ⟨v', w', E', hrun, hg'⟩ := hok m0 w0 E1 a w _ (a.eval s) (a.eval x) o.type o.dst hg1 (by
              show (st2.b ++ [some (.arr e t [])])[st.b.length]? = _
              rw [List.getElem?_append_right (by omega)]; simp [hbl]) (by rw [hsv, ← hbl]; exact hτ) hxv
            unfold Oper.wp
            rw [hex a w w' v' hrun]
            refine hk v' E' w' ?_
            show GR C m0 w0 E' ((Eff.napp e t ([] ++ ys)).ap o.dst st2) _ _
            have e1 : (Eff.napp e t ([] ++ ys)).ap o.dst st2 = (Eff.app st.b.length e t ([] ++ ys)).ap o.dst (st2.fresh e t) := by rw [← hbl]; rfl
            rw [e1]; exact hg'
          · cases h
        · cases h
      · cases h
    · cases h
  · cases h

theorem effK_ok {ops : Array Oper} {st : St} {o : Oper} {K : Eff → Option R} {r : R} (h : effK P ops st o K = some (some r)) : ∃ f, K f = some r ∧ EffOK P C o st f := by
  unfold effK at h
  split at h
  · rename_i ty a x ho
    exact storeE_ok ho (Option.some.inj h)
  · rename_i ty len parts ho
    split at h
    · split at h
      · exact litE_ok ho (Option.some.inj h)
      · cases h
    · cases h
  · rename_i c ho
    split at h
    · rename_i hcb
      exact appendE_ok ho hcb (Option.some.inj h)
    · cases h
  · cases h

theorem guardK_bxs {ops : Array Oper} {st : St} {o : Oper} {K : Bool → Option R} {r : R} (h : guardK ops st o K = some r) : ∀ g want t s, o.guard = some (g, want) → (ops[g]?).bind (·.dst) = some t → st.t[t]? = some s → s.bxs = [] := by
  intro g want t s hg ht hs
  unfold guardK at h
  rw [hg] at h
  simp only [ht, hs] at h
  split at h
  · rename_i e; obtain rfl := Option.some.inj e; rfl
  · rename_i e; obtain rfl := Option.some.inj e; rfl
  · cases h
theorem know_id {st : St} {t : Tmp} {b : Bool} (h : st.t[t]? = some (.v ⟨.bool, b⟩)) : st.know t b = st := by
  unfold St.know
  have : st.t.set t (.v ⟨.bool, b⟩) = st.t := by
    apply List.ext_getElem?
    intro i
    rw [List.getElem?_set]
    split
    · rename_i e; subst e
      split
      · exact h.symm
      · rename_i hn; rw [List.getElem?_eq_none (by omega)]
    · rfl
  rw [this]
theorem know_id' {st : St} {t : Tmp} {b : Bool} (h : st.t[t]? = some (.v ⟨.bool, b⟩)) {K : Bool → St → Option R} {want : Bool} : (bif b then K (true == want) (st.know t true) else K (false == want) (st.know t false)) = (bif b then K (true == want) st else K (false == want) st) := by
  cases b with
  | true => rw [cond_true, cond_true, know_id h]
  | false => rw [cond_false, cond_false, know_id h]
theorem guardS_K {ops : Array Oper} {st : St} {o : Oper} {K : Bool → St → Option R} {r : R} (h : guardS ops st o K = some r) : guardK ops st o (fun b => K b st) = some r := by
  cases hg : o.guard with
  | none =>
    simp only [guardS, hg] at h
    simp only [guardK, hg]
    exact h
  | some p =>
    obtain ⟨j, want⟩ := p
    cases ht : (ops[j]?).bind (·.dst) with
    | none => simp [guardS, hg, ht] at h
    | some t =>
      cases hs : st.t[t]? with
      | none => simp [guardS, hg, ht, hs] at h
      | some s =>
        have key : ∀ b : Bool, s = .v ⟨.bool, b⟩ → guardK ops st o (fun b => K b st) = some r := by
          rintro b rfl
          simp only [guardS, hg, ht, hs] at h
          simp only [guardK, hg, ht, hs]
          rw [know_id' hs] at h
          cases b <;> cases want <;> exact h
        cases s with
        | undef =>
          simp only [guardS, hg, ht, hs] at h
          simp only [guardK, hg, ht, hs]
          exact h
        | junk => simp [guardS, hg, ht, hs] at h
        | tup u x => simp [guardS, hg, ht, hs] at h
        | v x =>
          obtain ⟨u, x⟩ := x
          cases u with
          | bool => exact key x rfl
          | _ => simp [guardS, hg, ht, hs] at h
theorem guardK_dim {ops : Array Oper} {st : St} {l : List Nat} {o : Oper} {K : Bool → Option R} : guardK ops (st.dim l) o K = guardK ops st o K := rfl

structure Trace (P : Program) (C : Ctx) (ops : Array Oper) (k : Nat) (S : Nat → Slot) (T : Nat → St) (L : Nat → List Nat) (F : Nat → Option Eff) : Prop where
  step : ∀ j o, k ≤ j → ops[j]? = some o → ∃ b,
    ((b = false ∧ F j = none ∧ S j = .undef ∧ T (j + 1) = (T j).put o.dst .undef) ∨
      (b = true ∧ F j = none ∧ T (j + 1) = (T j).put o.dst (S j) ∧ OpOK P C o ((T j).dim (seen ops (T j) o)) (S j) ∧ L j = seesL ops (T j) o ++ (S j).bxs) ∨
      (b = true ∧ ∃ f, F j = some f ∧ S j = f.slot (T j) ∧ T (j + 1) = f.ap o.dst (T j) ∧ EffOK P C o (T j) f ∧ L j = seesL ops (T j) o ++ (f.box (T j) :: (f.slot (T j)).bxs))) ∧
    ∀ (X : Nat → Prop) (E : Env) (tmps : Array Value) (w : World), FR X E ((T j).dim []) tmps w → (∀ g want t, o.guard = some (g, want) → (ops[g]?).bind (·.dst) = some t → X t) → Region.wanted o (yielded ops tmps) = b
  gd : ∀ j o, k ≤ j → ops[j]? = some o → ∀ g want t s, o.guard = some (g, want) → (ops[g]?).bind (·.dst) = some t → (T j).t[t]? = some s → s.bxs = []

theorem put_bb (st : St) (d : Option Tmp) (s : Slot) : (st.put d s).b = st.b := by cases d <;> rfl

/-- The log's row of an operation. -/
def lgOf (T : Nat → St) (L : Nat → List Nat) (F : Nat → Option Eff) (j : Nat) : Lg := ⟨j, L j, (F j).map fun f => f.box (T j)⟩

theorem opsP_ok {sp : Specs} (hsp : ∀ g s, sp g = some s → SoundX P C g s) {n : Nat} {ops : Array Oper} {K : St → Option R} {r : R} :
    ∀ (l : List Oper) (k : Nat) (st : St) (g : List Lg), ops.toList.drop k = l → k ≤ ops.size → opsP P sp n ops l k st g K = some r →
      ∃ S T L F G, T k = st ∧ K (T ops.size) = some r ∧ Trace P C ops k S T L F ∧ logOk ops (G ++ g) = true ∧ (∀ j, k ≤ j → j < ops.size → (L j = [] ∧ F j = none) ∨ lgOf T L F j ∈ G) ∧ (∀ x, x ∈ G → k ≤ x.j) ∧ (effs G).Pairwise (fun x y => y < x)
  | [], k, st, g, hk, hle, h => by
    have hlen : ops.size ≤ k := by
      have : (ops.toList.drop k).length = 0 := by rw [hk]; rfl
      simp at this; omega
    simp only [opsP] at h
    split at h
    · rename_i hg
      refine ⟨fun _ => .junk, fun _ => st, fun _ => [], fun _ => none, [], rfl, h, ⟨fun j o hj ho => ?_, fun j o hj ho => ?_⟩, hg, fun j h1 h2 => by omega, fun _ h => by (cases h), by simp [effs]⟩
      all_goals
        have := (Array.getElem?_eq_some_iff.1 ho).1
        omega
    · cases h
  | o :: l, k, st, g, hk, hle, h => by
    have hko : ops[k]? = some o := by
      have : (ops.toList.drop k)[0]? = some o := by rw [hk]; rfl
      rw [List.getElem?_drop] at this
      simpa using this
    have hlt : k < ops.size := (Array.getElem?_eq_some_iff.1 hko).1
    have hk' : ops.toList.drop (k + 1) = l := by
      rw [← List.drop_drop, hk]; rfl
    simp only [opsP] at h
    have h := guardS_K h
    rw [← guardK_dim (l := [])] at h
    have hgd := guardK_bxs h
    obtain ⟨b, hb, hw⟩ := guardK_ok h
    have fin : ∀ (s : Slot) (st' : St) (lk : List Nat) (fk : Option Eff) (g1 : List Lg), opsP P sp n ops l (k + 1) st' (g1 ++ g) K = some r → (g1 = [] ∧ lk = [] ∧ fk = none ∨ g1 = [⟨k, lk, fk.map fun f => f.box st⟩]) →
        ((b = false ∧ fk = none ∧ s = .undef ∧ st' = st.put o.dst .undef) ∨
          (b = true ∧ fk = none ∧ st' = st.put o.dst s ∧ OpOK P C o (st.dim (seen ops st o)) s ∧ lk = seesL ops st o ++ s.bxs) ∨
          (b = true ∧ ∃ f, fk = some f ∧ s = f.slot st ∧ st' = f.ap o.dst st ∧ EffOK P C o st f ∧ lk = seesL ops st o ++ (f.box st :: (f.slot st).bxs))) →
        ∃ S T L F G, T k = st ∧ K (T ops.size) = some r ∧ Trace P C ops k S T L F ∧ logOk ops (G ++ g) = true ∧ (∀ j, k ≤ j → j < ops.size → (L j = [] ∧ F j = none) ∨ lgOf T L F j ∈ G) ∧ (∀ x, x ∈ G → k ≤ x.j) ∧ (effs G).Pairwise (fun x y => y < x) := by
      intro s st' lk fk g1 hs hg1 hcase
      obtain ⟨S, T, L, F, G, hT, hK, htr, hlog, hmem, hG, hP⟩ := opsP_ok hsp l (k + 1) _ _ hk' hlt hs
      refine ⟨fun j => if j = k then s else S j, fun j => if j = k then st else T j, fun j => if j = k then lk else L j, fun j => if j = k then fk else F j, G ++ g1, if_pos rfl, ?_, ⟨fun j q hj hq => ?_, fun j q hj hq => ?_⟩, by rw [List.append_assoc]; exact hlog, fun j hj hjs => ?_, fun x hx => ?_, ?_⟩
      · show K (if ops.size = k then st else T ops.size) = some r
        rw [if_neg (by omega)]; exact hK
      · by_cases e : j = k
        · subst e
          obtain rfl : o = q := Option.some.inj (hko.symm.trans hq)
          simp only [if_true]
          rw [if_neg (by omega), hT]
          exact ⟨b, hcase, hw⟩
        · simp only [if_neg e, if_neg (show ¬ j + 1 = k by omega)]
          exact htr.step j q (by omega) hq
      · by_cases e : j = k
        · subst e
          obtain rfl : o = q := Option.some.inj (hko.symm.trans hq)
          simp only [if_true]
          exact hgd
        · simp only [if_neg e]
          exact htr.gd j q (by omega) hq
      · by_cases e : j = k
        · subst e
          simp only [if_true, lgOf]
          rcases hg1 with ⟨_, h1, h2⟩ | h1
          · exact .inl ⟨h1, h2⟩
          · exact .inr (List.mem_append_right _ (by rw [h1]; exact List.mem_singleton.2 rfl))
        · simp only [if_neg e, lgOf]
          rcases hmem j (by omega) hjs with h1 | h1
          · exact .inl h1
          · exact .inr (List.mem_append_left _ h1)
      · rcases List.mem_append.1 hx with h1 | h1
        · have := hG x h1; omega
        · rcases hg1 with ⟨h2, _⟩ | h2
          · rw [h2] at h1; cases h1
          · rw [h2, List.mem_singleton] at h1; rw [h1]; exact Nat.le_refl _
      · have e1 : effs (G ++ g1) = effs G ++ effs g1 := by unfold effs; rw [List.filterMap_append]
        rw [e1, List.pairwise_append]
        refine ⟨hP, ?_, fun x hx y hy => ?_⟩
        · rcases hg1 with ⟨h2, _⟩ | h2
          · rw [h2]; simp [effs]
          · rw [h2]; cases fk <;> simp [effs]
        · have hxk : k + 1 ≤ x := by
            unfold effs at hx
            obtain ⟨z, hz, hz2⟩ := List.mem_filterMap.1 hx
            have := hG z hz
            split at hz2
            · obtain rfl := Option.some.inj hz2; exact this
            · cases hz2
          have hyk : y = k := by
            rcases hg1 with ⟨h2, _⟩ | h2
            · rw [h2] at hy; simp [effs] at hy
            · rw [h2] at hy
              cases fk <;> simp [effs] at hy
              exact hy
          omega
    rcases bif_some hb with ⟨rfl, h2⟩ | ⟨rfl, h2⟩
    · split at h2
      · rename_i x hx
        subst h2
        obtain ⟨f, hf, hok⟩ := effK_ok (C := C) hx
        exact fin (f.slot st) _ _ (some f) [_] hf (.inr rfl) (.inr (.inr ⟨rfl, f, rfl, rfl, rfl, hok, rfl⟩))
      · obtain ⟨s, hs, hok⟩ := pureK_ok hsp h2
        exact fin s _ _ none [_] hs (.inr rfl) (.inr (.inl ⟨rfl, rfl, rfl, hok, rfl⟩))
    · exact fin .undef _ [] none [] h2 (.inl ⟨rfl, rfl, rfl⟩) (.inl ⟨rfl, rfl, rfl, rfl⟩)

/-- Operation i writes t. -/
def Wr (ops : Array Oper) (t i : Nat) : Prop := ∃ o, ops[i]? = some o ∧ o.dst = some t
/-- Operation e appends to the box q. -/
def Ap (T : Nat → St) (F : Nat → Option Eff) (e q : Nat) : Prop := (∃ x t zs, F e = some (.app q x t zs)) ∨ (∃ x t zs, F e = some (.napp x t zs) ∧ q = (T e).b.length)
/-- i is ahead of j, by the edges. -/
inductive Ahead (ops : Array Oper) : Nat → Nat → Prop where
  | one {i j : Nat} {o : Oper} {e : Edge} : ops[j]? = some o → e ∈ o.after → Region.binds .any e = true → e.on = i → i < j → Ahead ops i j
  | step {i k j : Nat} : Ahead ops i k → Ahead ops k j → Ahead ops i j
theorem Ahead.lt {ops : Array Oper} {i j : Nat} (h : Ahead ops i j) : i < j := by
  induction h with
  | one _ _ _ _ h => exact h
  | step _ _ h1 h2 => omega
theorem Ahead.closed {ops : Array Oper} {listed : Array Bool} (hc : ∀ i o, ops[i]? = some o → listed.getD i false = true → ∀ e ∈ o.after, Region.binds .any e = true → listed.getD e.on false = true) {i j : Nat} (h : Ahead ops i j) (hj : listed.getD j false = true) : listed.getD i false = true := by
  induction h with
  | one ho he hb hon _ => rw [← hon]; exact hc _ _ ho hj _ he hb
  | step _ _ h1 h2 => exact h1 (h2 hj)
theorem Ahead.ready {ops : Array Oper} {listed : Array Bool} (hc : ∀ i o, ops[i]? = some o → listed.getD i false = true → ∀ e ∈ o.after, Region.binds .any e = true → listed.getD e.on false = true) {i j : Nat} {o : Oper} (h : Ahead ops i j) (ho : ops[j]? = some o) (hr : ∀ e ∈ o.after, Region.binds .any e = true → listed.getD e.on false = true) : listed.getD i false = true := by
  induction h with
  | one ho' he hb hon _ =>
    obtain rfl := Option.some.inj (ho.symm.trans ho')
    rw [← hon]; exact hr _ he hb
  | step h1 _ _ h2 => exact h1.closed hc (h2 ho)
theorem reach_ahead {ops : Array Oper} : ∀ (d i j : Nat), reach ops d i j = true → Ahead ops i j
  | 0, _, _, h => by simp [reach] at h
  | d + 1, i, j, h => by
    unfold reach at h
    split at h
    · rename_i q hq
      obtain ⟨e, he, h2⟩ := List.any_eq_true.1 h
      simp only [Bool.and_eq_true, Bool.or_eq_true, decide_eq_true_eq, beq_iff_eq] at h2
      obtain ⟨hb, hlt, h3⟩ := h2
      have hE : Ahead ops e.on j := .one hq (Array.mem_toList_iff.1 he) hb rfl hlt
      rcases h3 with h3 | ⟨_, h3⟩
      · rw [← h3]; exact hE
      · exact .step (reach_ahead d i e.on h3) hE
    · cases h
theorem chain_ahead {ops : Array Oper} : ∀ (l : List Nat), chainOk ops l = true → l.Pairwise (fun x y => Ahead ops y x)
  | [], _ => .nil
  | [_], _ => List.pairwise_singleton _ _
  | x :: y :: r, h => by
    simp only [chainOk, Bool.and_eq_true] at h
    have ih := chain_ahead (y :: r) h.2.2
    have h1 := reach_ahead _ _ _ h.2.1
    refine .cons (fun z hz => ?_) ih
    rcases List.mem_cons.1 hz with rfl | hz
    · exact h1
    · exact .step (List.rel_of_pairwise_cons ih hz) h1

section
variable {ops : Array Oper} {S : Nat → Slot} {T : Nat → St} {L : Nat → List Nat} {F : Nat → Option Eff}

/-- What the log tells. -/
structure LogP (ops : Array Oper) (T : Nat → St) (L : Nat → List Nat) (F : Nat → Option Eff) : Prop where
  tot : ∀ i j, i < ops.size → j < ops.size → F i ≠ none → F j ≠ none → i < j → Ahead ops i j
  look : ∀ i j f, i < ops.size → j < ops.size → F i = some f → f.box (T i) ∈ L j → i ≠ j → Ahead ops j i ∨ Ahead ops i j
theorem log_of {G : List Lg} (h : logOk ops G = true) (hm : ∀ j, 0 ≤ j → j < ops.size → (L j = [] ∧ F j = none) ∨ lgOf T L F j ∈ G) (hP : (effs G).Pairwise (fun x y => y < x)) : LogP ops T L F := by
  unfold logOk at h
  rw [Bool.and_eq_true] at h
  have mem : ∀ j, j < ops.size → F j ≠ none → lgOf T L F j ∈ G := fun j hj hf => by
    rcases hm j (Nat.zero_le _) hj with ⟨_, h1⟩ | h1
    · exact absurd h1 hf
    · exact h1
  have meme : ∀ j, j < ops.size → F j ≠ none → j ∈ effs G := fun j hj hf => by
    unfold effs
    refine List.mem_filterMap.2 ⟨_, mem j hj hf, ?_⟩
    cases hF : F j with
    | none => exact absurd hF hf
    | some f => simp [lgOf, hF]
  have hch := chain_ahead _ h.1
  refine ⟨fun i j hi hj hfi hfj hij => ?_, fun i j f hi hj hf hq hne => ?_⟩
  · have key : ∀ l : List Nat, l.Pairwise (fun x y => y < x) → l.Pairwise (fun x y => Ahead ops y x) → i ∈ l → j ∈ l → Ahead ops i j := by
      intro l
      induction l with
      | nil => intro _ _ h; cases h
      | cons x r ih =>
        intro p1 p2 m1 m2
        rcases List.mem_cons.1 m1 with e1 | k1
        · subst e1
          rcases List.mem_cons.1 m2 with h2 | m2
          · omega
          · have := List.rel_of_pairwise_cons p1 m2; omega
        · rcases List.mem_cons.1 m2 with h2 | k2
          · rw [h2]; exact List.rel_of_pairwise_cons p2 k1
          · exact ih p1.of_cons p2.of_cons k1 k2
    exact key _ hP hch (meme i hi hfi) (meme j hj hfj)
  · have hLj : lgOf T L F j ∈ G := by
      rcases hm j (Nat.zero_le _) hj with ⟨h1, _⟩ | h1
      · rw [h1] at hq; cases hq
      · exact h1
    have h1 := List.all_eq_true.1 h.2 _ (mem i hi (by rw [hf]; simp))
    simp only [lgOf, hf, Option.map_some] at h1
    have h2 := List.all_eq_true.1 h1 _ hLj
    simp only [lgOf, Bool.or_eq_true, beq_iff_eq, Bool.not_eq_true'] at h2
    rcases h2 with h2 | h2 | h2 | h2
    · exact absurd h2.symm hne
    · have : (L j).contains (f.box (T i)) = true := by simpa using hq
      rw [this] at h2; cases h2
    · exact .inl (reach_ahead _ _ _ h2)
    · exact .inr (reach_ahead _ _ _ h2)

theorem ap_len (f : Eff) (d : Option Tmp) (st : St) : (f.ap d st).t.length = st.t.length := by
  cases f <;> cases d <;> simp [Eff.ap, St.put, St.off, St.fresh]
theorem ap_blen (f : Eff) (d : Option Tmp) (st : St) : st.b.length ≤ (f.ap d st).b.length := by
  cases f <;> cases d <;> simp [Eff.ap, St.put, St.off, St.fresh]
/-- What a slot holds behind an effect. -/
theorem ap_get (f : Eff) (d : Option Tmp) (st : St) (t : Nat) (hd : d ≠ some t) {s : Slot} (h : (f.ap d st).t[t]? = some s) : ∃ s0, st.t[t]? = some s0 ∧ (s = s0 ∨ s = .junk) ∧ (s = .junk ∨ ∀ k e u zs, (f = .app k e u zs ∨ (f = .napp e u zs ∧ k = st.b.length)) → k ∉ s0.bxs) := by
  have put_ : ∀ (st : St) (x : Slot), (st.put d x).t[t]? = st.t[t]? := fun st x => by
    cases d with
    | none => rfl
    | some d => exact List.getElem?_set_ne (fun hh => hd (by rw [hh]))
  cases f with
  | set i bx =>
    have h' : (st.put d .undef).t[t]? = some s := h
    rw [put_] at h'
    exact ⟨s, h', .inl rfl, .inr fun k e u zs q => by rcases q with q | ⟨q, _⟩ <;> cases q⟩
  | new bx x =>
    have h' : (st.put d x).t[t]? = some s := h
    rw [put_] at h'
    exact ⟨s, h', .inl rfl, .inr fun k e u zs q => by rcases q with q | ⟨q, _⟩ <;> cases q⟩
  | app k e u zs =>
    have h' : (st.t.map (offS fun i => i != k))[t]? = some s := by rw [← h]; exact (put_ ⟨_, _⟩ _).symm
    rw [List.getElem?_map, Option.map_eq_some_iff] at h'
    obtain ⟨s0, h0, rfl⟩ := h'
    refine ⟨s0, h0, ?_, ?_⟩
    · rcases offS_or (fun i => i != k) s0 with q | ⟨q, _⟩
      · exact .inr q
      · exact .inl q
    · rcases offS_or (fun i => i != k) s0 with q | ⟨_, q⟩
      · exact .inl q
      · refine .inr fun k' e' u' zs' h1 hk => ?_
        rcases h1 with h1 | ⟨h1, _⟩
        · cases h1
          have := q k hk; simp at this
        · cases h1
  | napp e u zs =>
    have h' : (st.t.map (offS fun i => i != st.b.length))[t]? = some s := by rw [← h]; exact (put_ ⟨_, _⟩ _).symm
    rw [List.getElem?_map, Option.map_eq_some_iff] at h'
    obtain ⟨s0, h0, rfl⟩ := h'
    refine ⟨s0, h0, ?_, ?_⟩
    · rcases offS_or (fun i => i != st.b.length) s0 with q | ⟨q, _⟩
      · exact .inr q
      · exact .inl q
    · rcases offS_or (fun i => i != st.b.length) s0 with q | ⟨_, q⟩
      · exact .inl q
      · refine .inr fun k' e' u' zs' h1 hk => ?_
        rcases h1 with h1 | ⟨h1, h2⟩
        · cases h1
        · rw [h2] at hk
          have := q _ hk; simp at this
/-- A slot that an effect leaves as it is. -/
theorem ap_stay (f : Eff) (d : Option Tmp) (st : St) (t : Nat) (hd : d ≠ some t) {s : Slot} (h : st.t[t]? = some s) (hn : ∀ k e u zs, (f = .app k e u zs ∨ (f = .napp e u zs ∧ k = st.b.length)) → k ∉ s.bxs) : (f.ap d st).t[t]? = some s := by
  have put_ : ∀ (st : St) (x : Slot), (st.put d x).t[t]? = st.t[t]? := fun st x => by
    cases d with
    | none => rfl
    | some d => exact List.getElem?_set_ne (fun hh => hd (by rw [hh]))
  cases f with
  | set i bx => exact (put_ st .undef).trans h
  | new bx x => exact (put_ st x).trans h
  | app k e u zs =>
    refine (put_ ⟨_, _⟩ _).trans ?_
    show (st.t.map (offS fun i => i != k))[t]? = some s
    rw [List.getElem?_map, h, Option.map_some, offS_keep fun q hq => by
      have := hn k e u zs (.inl rfl)
      simp only [bne_iff_ne, ne_eq]
      intro hh; subst hh; exact this hq]
  | napp e u zs =>
    refine (put_ ⟨_, _⟩ _).trans ?_
    show (st.t.map (offS fun i => i != st.b.length))[t]? = some s
    rw [List.getElem?_map, h, Option.map_some, offS_keep fun q hq => by
      have := hn st.b.length e u zs (.inr ⟨rfl, rfl⟩)
      simp only [bne_iff_ne, ne_eq]
      intro hh; subst hh; exact this hq]
theorem ap_dst (f : Eff) (d : Tmp) (st : St) (h : d < st.t.length) : (f.ap (some d) st).t[d]? = some (f.slot st) := by
  cases f <;> simp [Eff.ap, Eff.slot, St.put, St.off, St.fresh, h]
/-- What a box holds behind an effect. -/
theorem ap_b (f : Eff) (d : Option Tmp) (st : St) (q : Nat) (hq : q ≠ f.box st) (c : Bx) (h : (f.ap d st).b[q]? = some (some c)) : st.b[q]? = some (some c) := by
  cases f with
  | set i bx =>
    have h' : (st.b.set i (some bx))[q]? = some (some c) := h
    rw [List.getElem?_set_ne (fun hh => hq (by exact hh.symm))] at h'; exact h'
  | new bx x =>
    have h' : (st.b ++ [some bx])[q]? = some (some c) := h
    have hq' : q ≠ st.b.length := hq
    have hlt := (List.getElem?_eq_some_iff.1 h').1
    rw [List.length_append] at hlt
    simp only [List.length_singleton] at hlt
    rw [List.getElem?_append_left (by omega)] at h'; exact h'
  | app k e u zs =>
    have hq' : q ≠ k := hq
    have h' : ((st.b.map (offB fun i => i != k)).set k (some (Bx.arr e u zs)))[q]? = some (some c) := by rw [← h]; exact (congrArg (·[q]?) (put_bb ⟨_, _⟩ _ _)).symm
    rw [List.getElem?_set_ne (fun hh => hq' hh.symm), List.getElem?_map, Option.map_eq_some_iff] at h'
    obtain ⟨o, h1, h2⟩ := h'
    rw [h1, offB_some h2]
  | napp e u zs =>
    have hq' : q ≠ st.b.length := hq
    have h' : (((st.b ++ [some (Bx.arr e u [])]).map (offB fun i => i != st.b.length)).set st.b.length (some (Bx.arr e u zs)))[q]? = some (some c) := by rw [← h]; exact (congrArg (·[q]?) (put_bb ⟨_, _⟩ _ _)).symm
    rw [List.getElem?_set_ne (fun hh => hq' hh.symm), List.getElem?_map, Option.map_eq_some_iff] at h'
    obtain ⟨o, h1, h2⟩ := h'
    have hlt := (List.getElem?_eq_some_iff.1 h1).1
    rw [List.length_append] at hlt
    simp only [List.length_singleton] at hlt
    rw [List.getElem?_append_left (by omega)] at h1
    rw [h1, offB_some h2]
theorem ap_bstay (f : Eff) (d : Option Tmp) (st : St) (q : Nat) (hq : q ≠ f.box st) (c : Bx) (h : st.b[q]? = some (some c)) (hn : ∀ k e u zs, (f = .app k e u zs ∨ (f = .napp e u zs ∧ k = st.b.length)) → k ∉ c.bxs) : (f.ap d st).b[q]? = some (some c) := by
  have hlt := (List.getElem?_eq_some_iff.1 h).1
  cases f with
  | set i bx => exact (List.getElem?_set_ne (fun hh => hq hh.symm)).trans h
  | new bx x => exact (List.getElem?_append_left hlt).trans h
  | app k e u zs =>
    have hq' : q ≠ k := hq
    refine (congrArg (·[q]?) (put_bb ⟨_, _⟩ _ _)).trans ?_
    show ((st.b.map (offB fun i => i != k)).set k (some (Bx.arr e u zs)))[q]? = some (some c)
    rw [List.getElem?_set_ne (fun hh => hq' hh.symm), List.getElem?_map, h, Option.map_some, offB_keep fun x hx => by
      have := hn k e u zs (.inl rfl)
      simp only [bne_iff_ne, ne_eq]
      intro hh; subst hh; exact this hx]
  | napp e u zs =>
    have hq' : q ≠ st.b.length := hq
    refine (congrArg (·[q]?) (put_bb ⟨_, _⟩ _ _)).trans ?_
    show (((st.b ++ [some (Bx.arr e u [])]).map (offB fun i => i != st.b.length)).set st.b.length (some (Bx.arr e u zs)))[q]? = some (some c)
    rw [List.getElem?_set_ne (fun hh => hq' hh.symm), List.getElem?_map, List.getElem?_append_left hlt, h, Option.map_some, offB_keep fun x hx => by
      have := hn st.b.length e u zs (.inr ⟨rfl, rfl⟩)
      simp only [bne_iff_ne, ne_eq]
      intro hh; subst hh; exact this hx]
theorem ap_bcong (f : Eff) (d : Option Tmp) (st st2 : St) (h : st2.b = st.b) : (f.ap d st2).b = (f.ap d st).b := by
  cases f with
  | set i bx => show st2.b.set i _ = st.b.set i _; rw [h]
  | new bx x => show st2.b ++ _ = st.b ++ _; rw [h]
  | app k e u zs =>
    refine (put_bb ⟨_, _⟩ _ _).trans (Eq.trans ?_ (put_bb ⟨_, _⟩ _ _).symm)
    show (st2.b.map _).set k _ = (st.b.map _).set k _
    rw [h]
  | napp e u zs =>
    refine (put_bb ⟨_, _⟩ _ _).trans (Eq.trans ?_ (put_bb ⟨_, _⟩ _ _).symm)
    show ((st2.b ++ _).map _).set st2.b.length _ = ((st.b ++ _).map _).set st.b.length _
    rw [h]

theorem ap_is {f : Eff} {e k : Nat} (hf : F e = some f) {x : TypeId} {u : Ty} {zs : List u.den} (h : f = .app k x u zs ∨ (f = .napp x u zs ∧ k = (T e).b.length)) : Ap T F e k := by
  rcases h with rfl | ⟨rfl, rfl⟩
  · exact .inl ⟨_, _, _, hf⟩
  · exact .inr ⟨_, _, _, hf, rfl⟩
theorem Ap.box {e q : Nat} (h : Ap T F e q) : ∃ f, F e = some f ∧ f.box (T e) = q := by
  rcases h with ⟨x, t, zs, h⟩ | ⟨x, t, zs, h, rfl⟩
  · exact ⟨_, h, rfl⟩
  · exact ⟨_, h, rfl⟩

theorem Trace.len (h : Trace P C ops 0 S T L F) : ∀ k, k ≤ ops.size → (T k).t.length = (T 0).t.length
  | 0, _ => rfl
  | k + 1, hk => by
    have hlt : k < ops.size := hk
    obtain ⟨b, hc, _⟩ := h.step k ops[k] (Nat.zero_le _) (Array.getElem?_eq_getElem hlt)
    have h1 := h.len k (by omega)
    have put_ : ∀ (d : Option Tmp) (s : Slot), ((T k).put d s).t.length = (T k).t.length := fun d s => by cases d <;> simp [St.put]
    rcases hc with ⟨_, _, _, e⟩ | ⟨_, _, e, _⟩ | ⟨_, f, _, _, e, _⟩
    · rw [e, put_, h1]
    · rw [e, put_, h1]
    · rw [e, ap_len, h1]

/-- A slot that none has written yet. -/
theorem Trace.none_ (h : Trace P C ops 0 S T L F) {t : Nat} : ∀ k, k ≤ ops.size → (∀ i, i < k → ¬ Wr ops t i) → ∀ s, (T k).t[t]? = some s → s = .junk ∨ ((T 0).t[t]? = some s ∧ ∀ e q, e < k → Ap T F e q → q ∉ s.bxs)
  | 0, _, _, s, hs => .inr ⟨hs, fun _ _ h => by omega⟩
  | k + 1, hk, hn, s, hs => by
    have hlt : k < ops.size := hk
    have hok := Array.getElem?_eq_getElem hlt
    obtain ⟨b, hc, _⟩ := h.step k ops[k] (Nat.zero_le _) hok
    have ih := h.none_ k (by omega) (fun i hi => hn i (by omega))
    have hd : ops[k].dst ≠ some t := fun hh => hn k (by omega) ⟨_, hok, hh⟩
    have put_ : ∀ (x : Slot), ((T k).put ops[k].dst x).t[t]? = (T k).t[t]? := fun x => by
      cases hd' : ops[k].dst with
      | none => rfl
      | some d => exact List.getElem?_set_ne (fun hh => hd (by rw [hd', hh]))
    have pure_ : F k = none → (T k).t[t]? = some s → s = .junk ∨ ((T 0).t[t]? = some s ∧ ∀ e q, e < k + 1 → Ap T F e q → q ∉ s.bxs) := fun hf h1 => by
      rcases ih s h1 with h2 | ⟨h2, h3⟩
      · exact .inl h2
      · refine .inr ⟨h2, fun e q he ha => ?_⟩
        by_cases hek : e = k
        · subst hek
          obtain ⟨f, hf', _⟩ := ha.box
          rw [hf] at hf'; cases hf'
        · exact h3 e q (by omega) ha
    rcases hc with ⟨_, hf, _, e⟩ | ⟨_, hf, e, _⟩ | ⟨_, f, hf, _, e, _⟩
    · rw [e, put_] at hs; exact pure_ hf hs
    · rw [e, put_] at hs; exact pure_ hf hs
    · rw [e] at hs
      obtain ⟨s0, h0, h1, h2⟩ := ap_get f _ _ t hd hs
      rcases h1 with rfl | h1
      · rcases h2 with h2 | h2
        · exact .inl h2
        rcases ih _ h0 with h3 | ⟨h3, h4⟩
        · exact .inl h3
        · refine .inr ⟨h3, fun e' q he ha => ?_⟩
          by_cases hek : e' = k
          · subst hek
            rcases ha with ⟨x, u, zs, ha⟩ | ⟨x, u, zs, ha, hq⟩
            · exact h2 q x u zs (.inl (Option.some.inj (hf.symm.trans ha)))
            · exact h2 q x u zs (.inr ⟨Option.some.inj (hf.symm.trans ha), hq⟩)
          · exact h4 e' q (by omega) ha
      · exact .inl h1
/-- A slot that i has written. -/
theorem Trace.some_ (h : Trace P C ops 0 S T L F) (hu : ∀ i j t, Wr ops t i → Wr ops t j → i = j) {t i : Nat} (hw : Wr ops t i) : ∀ k, k ≤ ops.size → i < k → ∀ s, (T k).t[t]? = some s → s = .junk ∨ (s = S i ∧ ∀ e q, i < e → e < k → Ap T F e q → q ∉ s.bxs)
  | k + 1, hk, hi, s, hs => by
    have hlt : k < ops.size := hk
    have hok := Array.getElem?_eq_getElem hlt
    obtain ⟨b, hc, _⟩ := h.step k ops[k] (Nat.zero_le _) hok
    by_cases hik : i = k
    · subst hik
      obtain ⟨o, ho, hd⟩ := hw
      obtain rfl : ops[i] = o := Option.some.inj (hok.symm.trans ho)
      have nov : ∀ e q, i < e → e < i + 1 → Ap T F e q → q ∉ s.bxs := fun e q h1 h2 => by omega
      have put_ : ∀ x, ((T i).put ops[i].dst x).t[t]? = some s → s = x := fun x hx => by
        rw [hd] at hx
        have hx' : ((T i).t.set t x)[t]? = some s := hx
        rw [List.getElem?_set, if_pos rfl] at hx'
        split at hx'
        · exact (Option.some.inj hx').symm
        · cases hx'
      rcases hc with ⟨_, _, hS, e⟩ | ⟨_, _, e, _⟩ | ⟨_, f, _, hS, e, _⟩
      · rw [e] at hs; exact .inr ⟨(put_ _ hs).trans hS.symm, nov⟩
      · rw [e] at hs; exact .inr ⟨put_ _ hs, nov⟩
      · rw [e, hd] at hs
        have hlt2 : t < (T i).t.length := by
          have := (List.getElem?_eq_some_iff.1 hs).1
          rwa [ap_len] at this
        rw [ap_dst f t _ hlt2] at hs
        exact .inr ⟨(Option.some.inj hs).symm.trans hS.symm, nov⟩
    · have ih := h.some_ hu hw k (by omega) (by omega)
      have hd : ops[k].dst ≠ some t := fun hh => hik (hu i k t hw ⟨_, hok, hh⟩)
      have put_ : ∀ (x : Slot), ((T k).put ops[k].dst x).t[t]? = (T k).t[t]? := fun x => by
        cases hd' : ops[k].dst with
        | none => rfl
        | some d => exact List.getElem?_set_ne (fun hh => hd (by rw [hd', hh]))
      have pure_ : F k = none → (T k).t[t]? = some s → s = .junk ∨ (s = S i ∧ ∀ e q, i < e → e < k + 1 → Ap T F e q → q ∉ s.bxs) := fun hf h1 => by
        rcases ih s h1 with h2 | ⟨h2, h3⟩
        · exact .inl h2
        · refine .inr ⟨h2, fun e q hie he ha => ?_⟩
          by_cases hek : e = k
          · subst hek
            obtain ⟨f, hf', _⟩ := ha.box
            rw [hf] at hf'; cases hf'
          · exact h3 e q hie (by omega) ha
      rcases hc with ⟨_, hf, _, e⟩ | ⟨_, hf, e, _⟩ | ⟨_, f, hf, _, e, _⟩
      · rw [e, put_] at hs; exact pure_ hf hs
      · rw [e, put_] at hs; exact pure_ hf hs
      · rw [e] at hs
        obtain ⟨s0, h0, h1, h2⟩ := ap_get f _ _ t hd hs
        rcases h1 with rfl | h1
        · rcases h2 with h2 | h2
          · exact .inl h2
          rcases ih _ h0 with h3 | ⟨h3, h4⟩
          · exact .inl h3
          · refine .inr ⟨h3, fun e' q hie he ha => ?_⟩
            by_cases hek : e' = k
            · subst hek
              rcases ha with ⟨x, u, zs, ha⟩ | ⟨x, u, zs, ha, hq⟩
              · exact h2 q x u zs (.inl (Option.some.inj (hf.symm.trans ha)))
              · exact h2 q x u zs (.inr ⟨Option.some.inj (hf.symm.trans ha), hq⟩)
            · exact h4 e' q hie (by omega) ha
        · exact .inl h1

/-- Between effects the boxes stay. -/
theorem Trace.bstay (h : Trace P C ops 0 S T L F) {a : Nat} : ∀ d, a + d ≤ ops.size → (∀ e, a ≤ e → e < a + d → F e = none) → (T (a + d)).b = (T a).b
  | 0, _, _ => rfl
  | d + 1, hk, hn => by
    have hlt : a + d < ops.size := by omega
    obtain ⟨b, hc, _⟩ := h.step (a + d) ops[a + d] (Nat.zero_le _) (Array.getElem?_eq_getElem hlt)
    have ih := h.bstay d (by omega) (fun e h1 h2 => hn e h1 (by omega))
    have hf0 := hn (a + d) (by omega) (by omega)
    rcases hc with ⟨_, _, _, e⟩ | ⟨_, _, e, _⟩ | ⟨_, f, hf, _, e, _⟩
    · show (T (a + d + 1)).b = _; rw [e, put_bb, ih]
    · show (T (a + d + 1)).b = _; rw [e, put_bb, ih]
    · rw [hf0] at hf; cases hf
/-- A box that none writes between a and a later place: what it holds there it held at a. -/
theorem Trace.bup (h : Trace P C ops 0 S T L F) {a q : Nat} {c : Bx} : ∀ d, a + d ≤ ops.size → (∀ e f, a ≤ e → e < a + d → F e = some f → f.box (T e) ≠ q) → (T (a + d)).b[q]? = some (some c) → (T a).b[q]? = some (some c)
  | 0, _, _, h => h
  | d + 1, hk, hn, hq => by
    have hlt : a + d < ops.size := by omega
    obtain ⟨b, hc, _⟩ := h.step (a + d) ops[a + d] (Nat.zero_le _) (Array.getElem?_eq_getElem hlt)
    refine h.bup d (by omega) (fun e f h1 h2 => hn e f h1 (by omega)) ?_
    have hq : (T (a + d + 1)).b[q]? = some (some c) := hq
    rcases hc with ⟨_, _, _, e⟩ | ⟨_, _, e, _⟩ | ⟨_, f, hf, _, e, _⟩
    · rw [e, put_bb] at hq; exact hq
    · rw [e, put_bb] at hq; exact hq
    · rw [e] at hq
      exact ap_b f _ _ q (fun hh => hn (a + d) f (by omega) (by omega) hf hh.symm) c hq
theorem Trace.bdown (h : Trace P C ops 0 S T L F) {a q : Nat} {c : Bx} (hq : (T a).b[q]? = some (some c)) : ∀ d, a + d ≤ ops.size → (∀ e f, a ≤ e → e < a + d → F e = some f → f.box (T e) ≠ q) → (∀ e k, a ≤ e → e < a + d → Ap T F e k → k ∉ c.bxs) → (T (a + d)).b[q]? = some (some c)
  | 0, _, _, _ => hq
  | d + 1, hk, hn, hn2 => by
    have hlt : a + d < ops.size := by omega
    obtain ⟨b, hc, _⟩ := h.step (a + d) ops[a + d] (Nat.zero_le _) (Array.getElem?_eq_getElem hlt)
    have ih := h.bdown hq d (by omega) (fun e f h1 h2 => hn e f h1 (by omega)) (fun e k h1 h2 => hn2 e k h1 (by omega))
    show (T (a + d + 1)).b[q]? = _
    rcases hc with ⟨_, _, _, e⟩ | ⟨_, _, e, _⟩ | ⟨_, f, hf, _, e, _⟩
    · rw [e, put_bb]; exact ih
    · rw [e, put_bb]; exact ih
    · rw [e]
      exact ap_bstay f _ _ q (fun hh => hn (a + d) f (by omega) (by omega) hf hh.symm) c ih (fun k x u zs hh => hn2 (a + d) k (by omega) (by omega) (ap_is hf hh))
end

structure Ord (ops : Array Oper) : Prop where
  uniq : ∀ i j t, Wr ops t i → Wr ops t j → i = j
  back : ∀ j o, ops[j]? = some o → ∀ e ∈ o.after, Region.binds .any e = true → e.on < j
  look : ∀ j o t i, ops[j]? = some o → t ∈ looks ops o → Wr ops t i → (i < j ∧ ∃ e ∈ o.after, Region.binds .any e = true ∧ e.on = i) ∨ (j < i ∧ ∃ q, ops[i]? = some q ∧ ∃ e ∈ q.after, Region.binds .any e = true ∧ e.on = j)

theorem ord_of {ops : Array Oper} (h : drawOk P ops = true) : P.follows .mixedOrders = true ∧ Ord ops := by
  unfold drawOk at h
  rw [Bool.and_eq_true] at h
  obtain ⟨h1, h2⟩ := h
  have one : ∀ j o, ops[j]? = some o → drawOne ops j o = true := fun j o ho => by
    have hlt := (Array.getElem?_eq_some_iff.1 ho).1
    have := List.all_eq_true.1 h2 j (List.mem_range.2 hlt)
    rw [ho] at this; exact this
  have back : ∀ j o, ops[j]? = some o → ∀ e ∈ o.after, Region.binds .any e = true → e.on < j := fun j o ho e he hb => by
    have := one j o ho
    unfold drawOne at this
    rw [Bool.and_eq_true] at this
    have := List.all_eq_true.1 this.1 e (Array.mem_toList_iff.2 he)
    rw [hb] at this
    simpa using this
  have other : ∀ j o i q t, ops[j]? = some o → ops[i]? = some q → q.dst = some t → (i = j ∨ o.dst ≠ some t) ∧ (t ∈ looks ops o → (i < j ∧ ∃ e ∈ o.after, Region.binds .any e = true ∧ e.on = i) ∨ (j < i ∧ ∃ e ∈ q.after, Region.binds .any e = true ∧ e.on = j)) := fun j o i q t ho hq ht => by
    have h3 := one j o ho
    unfold drawOne at h3
    rw [Bool.and_eq_true] at h3
    have hlt := (Array.getElem?_eq_some_iff.1 hq).1
    have h4 := List.all_eq_true.1 h3.2 i (List.mem_range.2 hlt)
    rw [hq] at h4
    simp only [ht] at h4
    simp only [Bool.and_eq_true, Bool.or_eq_true, beq_iff_eq, Bool.not_eq_true', beq_eq_false_iff_ne, decide_eq_true_eq, List.any_eq_true, Array.mem_toList_iff] at h4
    refine ⟨h4.1, fun hm => ?_⟩
    rcases h4.2 with h5 | h5
    · have : (looks ops o).contains t = true := by simpa using hm
      rw [this] at h5; cases h5
    · exact h5
  refine ⟨h1, fun i j t hi hj => ?_, back, fun j o t i ho hm hw => ?_⟩
  · obtain ⟨oi, hoi, hdi⟩ := hi
    obtain ⟨oj, hoj, hdj⟩ := hj
    rcases (other j oj i oi t hoj hoi hdi).1 with h | h
    · exact h
    · exact absurd hdj h
  · obtain ⟨q, hq, hd⟩ := hw
    rcases (other j o i q t ho hq hd).2 hm with ⟨h1, h2⟩ | ⟨h1, h2⟩
    · exact .inl ⟨h1, h2⟩
    · exact .inr ⟨h1, q, hq, h2⟩

/-- A region in the midst of a drawn order: cs is what holds now; p: the effects ahead of p are done. -/
structure Mid (C : Ctx) (m0 : Mem) (w0 : World) (ops : Array Oper) (S : Nat → Slot) (T : Nat → St) (F : Nat → Option Eff) (st : St) (ds : List Deferred) (listed : Array Bool) (E : Env) (a : Act) (w : World) (cs : St) (p : Nat) : Prop where
  size : listed.size = ops.size
  closed : ∀ i o, ops[i]? = some o → listed.getD i false = true → ∀ e ∈ o.after, Region.binds .any e = true → listed.getD e.on false = true
  done : ∀ i t, listed.getD i false = true → Wr ops t i → t < st.t.length → (∀ e q, Ap T F e q → i < e → e < ops.size → listed.getD e false = true → q ∉ (S i).bxs) → cs.t[t]? = some (S i)
  still : ∀ t s, (∀ i, Wr ops t i → listed.getD i false = false) → st.t[t]? = some s → (∀ e q, Ap T F e q → e < ops.size → listed.getD e false = true → q ∉ s.bxs) → cs.t[t]? = some s
  len : cs.t.length = st.t.length
  ple : p ≤ ops.size
  prog : ∀ e, e < ops.size → F e ≠ none → (e < p ↔ listed.getD e false = true)
  bx : cs.b = (T p).b
  gr : GR C m0 w0 E cs a.tmps w
  defers : a.defers = ds

theorem getD_true {l : Array Bool} {i : Nat} (hi : i < l.size) : l.getD i true = l.getD i false := by
  simp [Array.getElem?_eq_getElem hi]

theorem set_getD {l : Array Bool} {i j : Nat} (hi : i < l.size) : (l.setIfInBounds i true).getD j false = if i = j then true else l.getD j false := by
  rw [Array.getD_eq_getD_getElem?, Array.getD_eq_getD_getElem?, Array.getElem?_setIfInBounds]
  by_cases h : i = j
  · subst h; rw [if_pos rfl, if_pos rfl, if_pos hi]; rfl
  · rw [if_neg h, if_neg h]

def left_ (listed : Array Bool) : List Nat := (List.range listed.size).filter fun i => !listed.getD i false
theorem left_set {l : Array Bool} {i : Nat} (hi : i < l.size) (hf : l.getD i false = false) : (left_ (l.setIfInBounds i true)).length < (left_ l).length := by
  unfold left_
  rw [Array.size_setIfInBounds]
  have e : ((List.range l.size).filter fun j => !(l.setIfInBounds i true).getD j false) = ((List.range l.size).filter fun j => !l.getD j false).filter fun j => decide (j ≠ i) := by
    rw [List.filter_filter]
    apply List.filter_congr
    intro j _
    rw [set_getD hi]
    by_cases h : i = j
    · subst h; simp
    · rw [if_neg h]
      have : j ≠ i := fun hh => h hh.symm
      simp [this]
  rw [e]
  refine List.length_filter_lt_length_iff_exists.2 ⟨i, ?_, by simp⟩
  rw [List.mem_filter]
  exact ⟨List.mem_range.2 hi, by rw [hf]; rfl⟩

theorem draw_ok {ops : Array Oper} {S : Nat → Slot} {T : Nat → St} {L : Nat → List Nat} {F : Nat → Option Eff} {st : St} {ds : List Deferred} {Q : Exit → Act → World → Prop} (ho : Ord ops) (hl : LogP ops T L F) (ht : Trace P C ops 0 S T L F) (h0 : T 0 = st)
    (hQ : ∀ E a w, GR C m0 w0 E (T ops.size) a.tmps w → a.defers = ds → Q .normal a w) :
    ∀ (fuel : Nat) (listed : Array Bool) (E : Env) (a : Act) (w : World) (cs : St) (p : Nat), (left_ listed).length ≤ fuel → Mid C m0 w0 ops S T F st ds listed E a w cs p → wpAny P .any ops Q fuel listed a w := by
  have hlen : ∀ k, k ≤ ops.size → (T k).t.length = st.t.length := fun k hk => by rw [← h0]; exact ht.len k hk
  have hLs : ∀ j o f, ops[j]? = some o → F j = some f → L j = seesL ops (T j) o ++ (f.box (T j) :: (f.slot (T j)).bxs) := fun j o f hj hf => by
    obtain ⟨b, hc, _⟩ := ht.step j o (Nat.zero_le _) hj
    rcases hc with ⟨_, h1, _⟩ | ⟨_, h1, _⟩ | ⟨_, f', h1, _, _, _, h2⟩
    · rw [hf] at h1; cases h1
    · rw [hf] at h1; cases h1
    · obtain rfl := Option.some.inj (hf.symm.trans h1); exact h2
  -- what an operation yields speaks of boxes that are in its row
  have hSL : ∀ j, j < ops.size → ∀ q, q ∈ (S j).bxs → q ∈ L j := fun j hj q hq => by
    obtain ⟨b, hc, _⟩ := ht.step j ops[j] (Nat.zero_le _) (Array.getElem?_eq_getElem hj)
    rcases hc with ⟨_, _, h1, _⟩ | ⟨_, _, _, _, h2⟩ | ⟨_, f, _, h1, _, _, h2⟩
    · rw [h1] at hq; cases hq
    · rw [h2]; exact List.mem_append_right _ hq
    · rw [h2]; rw [h1] at hq; exact List.mem_append_right _ (List.mem_cons_of_mem _ hq)
  have atEnd : ∀ (listed : Array Bool) (E : Env) (a : Act) (w : World) (cs : St) (p : Nat), (∀ i, i < ops.size → listed.getD i false = true) → Mid C m0 w0 ops S T F st ds listed E a w cs p → Q .normal a w := by
    intro listed E a w cs p hall hm
    have h1 := hlen ops.size (Nat.le_refl _)
    have hcb : cs.b = (T ops.size).b := by
      rw [hm.bx]
      have := ht.bstay (a := p) (ops.size - p) (by have := hm.ple; omega) (fun e h1 h2 => by
        have hlt : e < ops.size := by have := hm.ple; omega
        cases hf : F e with
        | none => rfl
        | some f =>
          have := (hm.prog e hlt (by rw [hf]; simp)).2 (hall e hlt)
          omega)
      rw [show p + (ops.size - p) = ops.size by have := hm.ple; omega] at this
      exact this.symm
    refine hQ E a w ⟨⟨by rw [h1, ← hm.len]; exact hm.gr.fr.len, fun t s _ hs => ?_, fun i tv hi => hm.gr.fr.boxes i tv (by rw [hcb]; exact hi), fun i e t xs hi => hm.gr.fr.arrs i e t xs (by rw [hcb]; exact hi), hm.gr.fr.inj, hm.gr.fr.inv⟩, hm.gr.chg, hm.gr.own, hm.gr.lt, fun i hi => hm.gr.top i (by rw [hcb]; exact hi), hm.gr.gl⟩ hm.defers
    have htl : t < st.t.length := by rw [← h1]; exact (List.getElem?_eq_some_iff.1 hs).1
    by_cases hw : ∃ i, Wr ops t i
    · obtain ⟨i, hi⟩ := hw
      have hlt : i < ops.size := by obtain ⟨o, hoi, _⟩ := hi; exact (Array.getElem?_eq_some_iff.1 hoi).1
      rcases ht.some_ ho.uniq hi ops.size (Nat.le_refl _) hlt s hs with rfl | ⟨rfl, hok⟩
      · trivial
      · exact hm.gr.fr.slots t _ trivial (hm.done i t (hall i hlt) hi htl (fun e q ha h2 h3 _ => hok e q h2 h3 ha))
    · rcases ht.none_ ops.size (Nat.le_refl _) (fun i _ hi => hw ⟨i, hi⟩) s hs with rfl | ⟨h2, hok⟩
      · trivial
      · exact hm.gr.fr.slots t _ trivial (hm.still t s (fun i hi => absurd ⟨i, hi⟩ hw) (by rw [← h0]; exact h2) (fun e q ha h3 _ => hok e q h3 ha))
  have noneLeft : ∀ (listed : Array Bool), listed.size = ops.size → Region.ready .any ops listed = [] → ∀ i, i < ops.size → listed.getD i false = true := by
    intro listed hsz hr i
    induction i using Nat.strongRecOn with
    | _ i ih =>
      intro hi
      cases hf : listed.getD i false with
      | true => rfl
      | false =>
        have hmem : i ∈ Region.ready .any ops listed := by
          rw [mem_ready]
          refine ⟨by rw [getD_true (by omega)]; exact hf, ops[i], Array.getElem?_eq_getElem hi, fun e he hb => ?_⟩
          have := ho.back i _ (Array.getElem?_eq_getElem hi) e he hb
          exact ih e.on this (by omega)
        rw [hr] at hmem; cases hmem
  intro fuel
  induction fuel with
  | zero =>
    intro listed E a w cs p hc hm
    have hnil : left_ listed = [] := List.length_eq_zero_iff.1 (Nat.le_zero.1 hc)
    have hall : ∀ i, i < ops.size → listed.getD i false = true := fun i hi => by
      cases hf : listed.getD i false with
      | true => rfl
      | false =>
        have : i ∈ left_ listed := List.mem_filter.2 ⟨List.mem_range.2 (by rw [hm.size]; exact hi), by rw [hf]; rfl⟩
        rw [hnil] at this; cases this
    refine ⟨?_, atEnd listed E a w cs p hall hm⟩
    cases hr : Region.ready .any ops listed with
    | nil => rfl
    | cons x xs =>
      have : x ∈ Region.ready .any ops listed := by rw [hr]; simp
      rw [mem_ready] at this
      obtain ⟨h1, o, h2, _⟩ := this
      have hlt := (Array.getElem?_eq_some_iff.1 h2).1
      rw [getD_true (by rw [hm.size]; exact hlt), hall x hlt] at h1
      cases h1
  | succ fuel ih =>
    intro listed E a w cs p hc hm
    refine ⟨fun hr => atEnd listed E a w cs p (noneLeft listed hm.size hr) hm, fun j hj => ?_⟩
    rw [mem_ready] at hj
    obtain ⟨hf, o, hoj, hafter⟩ := hj
    have hlt := (Array.getElem?_eq_some_iff.1 hoj).1
    have hlt' : j < listed.size := by rw [hm.size]; exact hlt
    rw [getD_true hlt'] at hf
    obtain ⟨b, hcase, hguard⟩ := ht.step j o (Nat.zero_le _) hoj
    have hjl := hlen j (by omega)
    -- what is ahead of j is listed; what j is ahead of is not
    have ahead_j : ∀ i, Ahead ops i j → listed.getD i false = true := fun i h => h.ready hm.closed hoj hafter
    have j_ahead : ∀ i, Ahead ops j i → listed.getD i false = false := fun i h => by
      cases hli : listed.getD i false with
      | false => rfl
      | true => have := h.closed hm.closed hli; rw [hf] at this; cases this
    -- what j looks at holds what it holds in the text's order
    have hslot : ∀ t s, t ∈ looks ops o → (T j).t[t]? = some s → (∀ q, q ∈ s.bxs → q ∈ L j) → SlotRep E s (a.tmps.getD t undef) := by
      intro t s hX hs hsb
      have htl : t < st.t.length := by rw [← hjl]; exact (List.getElem?_eq_some_iff.1 hs).1
      have later : ∀ e q, Ap T F e q → j ≤ e → e < ops.size → listed.getD e false = true → q ∉ s.bxs := fun e q ha hje he hli hq => by
        obtain ⟨f, hf', hbx⟩ := ha.box
        have hne : e ≠ j := fun h => by subst h; rw [hf] at hli; cases hli
        rcases hl.look e j f he hlt hf' (by rw [hbx]; exact hsb q hq) hne with h1 | h1
        · have := j_ahead e h1; rw [hli] at this; cases this
        · have := h1.lt; omega
      by_cases hw : ∃ i, Wr ops t i
      · obtain ⟨i, hi⟩ := hw
        rcases ho.look j o t i hoj hX hi with ⟨hij, e, he, hbe, hei⟩ | ⟨hji, q, hq, e, he, hbe, hej⟩
        · rcases ht.some_ ho.uniq hi j (by omega) hij s hs with rfl | ⟨rfl, hok⟩
          · trivial
          · refine hm.gr.fr.slots t _ trivial (hm.done i t (by rw [← hei]; exact hafter e he hbe) hi htl (fun e' q' ha h2 h3 hli => ?_))
            by_cases hej : e' < j
            · exact hok e' q' h2 hej ha
            · exact later e' q' ha (by omega) h3 hli
        · rcases ht.none_ j (by omega) (fun i' hi' hw' => by have := ho.uniq _ _ _ hi hw'; omega) s hs with rfl | ⟨h2, hok⟩
          · trivial
          · refine hm.gr.fr.slots t _ trivial (hm.still t s (fun i' hi' => ?_) (by rw [← h0]; exact h2) (fun e' q' ha h3 hli => ?_))
            · obtain rfl := ho.uniq _ _ _ hi hi'
              cases hli : listed.getD i false with
              | false => rfl
              | true =>
                have := hm.closed i q hq hli e he hbe
                rw [hej, hf] at this; cases this
            · by_cases hej : e' < j
              · exact hok e' q' hej ha
              · exact later e' q' ha (by omega) h3 hli
      · rcases ht.none_ j (by omega) (fun i _ hi => hw ⟨i, hi⟩) s hs with rfl | ⟨h2, hok⟩
        · trivial
        · refine hm.gr.fr.slots t _ trivial (hm.still t s (fun i hi => absurd ⟨i, hi⟩ hw) (by rw [← h0]; exact h2) (fun e' q' ha h3 hli => ?_))
          by_cases hej : e' < j
          · exact hok e' q' hej ha
          · exact later e' q' ha (by omega) h3 hli
    have hwant : Region.wanted o (yielded ops a.tmps) = b := by
      refine hguard (fun t => ∃ g want, o.guard = some (g, want) ∧ (ops[g]?).bind (·.dst) = some t) E a.tmps w ⟨by show (T j).t.length = _; rw [hjl, ← hm.len]; exact hm.gr.fr.len, fun t s hX hs => ?_, fun i tv hi => ?_, fun i e t xs hi => ?_, hm.gr.fr.inj, hm.gr.fr.inv⟩ (fun g want t hg hgt => ⟨g, want, hg, hgt⟩)
      · obtain ⟨g, want, hg, hgt⟩ := hX
        have hX : t ∈ looks ops o := by
          unfold looks
          rw [hg]; simp only [hgt]
          exact List.mem_append_right _ (by simp)
        exact hslot t s hX hs (fun q hq => by rw [ht.gd j o (Nat.zero_le _) hoj g want t s hg hgt hs] at hq; cases hq)
      · obtain ⟨h1, _⟩ := dimB_get _ _ _ _ hi; cases h1
      · obtain ⟨h1, _⟩ := dimB_get _ _ _ _ hi; cases h1
    have hslots : (∀ q, q ∈ seen ops (T j) o → q ∈ L j) → ∀ t s, t ∈ looks ops o → (T j).t[t]? = some s → SlotRep E s (a.tmps.getD t undef) := fun hsee t s hX hs =>
      hslot t s hX hs fun q hq => hsee q (List.mem_flatMap.2 ⟨t, hX, by rw [hs]; exact hq⟩)
    -- the next state
    have next : ∀ v E' w' cs' p', GR C m0 w0 E' cs' (a.put o.dst v).tmps w' → (∀ t, o.dst = some t → t < st.t.length → cs'.t[t]? = some (S j)) → (∀ t s, o.dst ≠ some t → cs.t[t]? = some s → (∀ q, Ap T F j q → q ∉ s.bxs) → cs'.t[t]? = some s) → cs'.t.length = cs.t.length →
        p' ≤ ops.size → (∀ e, e < ops.size → F e ≠ none → (e < p' ↔ (listed.setIfInBounds j true).getD e false = true)) → cs'.b = (T p').b → wpAny P .any ops Q fuel (listed.setIfInBounds j true) (a.put o.dst v) w' := by
      intro v E' w' cs' p' hg hdst hoth hcl hp1 hp2 hp3
      refine ih _ E' _ w' cs' p' ?_ ?_
      · have := left_set hlt' hf; omega
      · refine ⟨by rw [Array.size_setIfInBounds]; exact hm.size, fun i q hq hli e he hbe => ?_, fun i t hli hw htl hva => ?_, fun t s hn hst hva => ?_, by rw [hcl]; exact hm.len, hp1, hp2, hp3, hg, by rw [put_defers]; exact hm.defers⟩
        · rw [set_getD hlt'] at hli ⊢
          split
          · rfl
          · split at hli
            · rename_i hji; subst hji
              obtain rfl : o = q := Option.some.inj (hoj.symm.trans hq)
              exact hafter e he hbe
            · exact hm.closed i q hq hli e he hbe
        · rw [set_getD hlt'] at hli
          by_cases hji : j = i
          · subst hji
            obtain ⟨q, hq, hd⟩ := hw
            obtain rfl : o = q := Option.some.inj (hoj.symm.trans hq)
            exact hdst t hd htl
          · rw [if_neg hji] at hli
            have hil : i < ops.size := by obtain ⟨q, hq, _⟩ := hw; exact (Array.getElem?_eq_some_iff.1 hq).1
            refine hoth t _ (fun hd => hji (ho.uniq _ _ _ ⟨o, hoj, hd⟩ hw)) (hm.done i t hli hw htl (fun e q ha h1 h2 h3 => hva e q ha h1 h2 (by rw [set_getD hlt']; split <;> first | rfl | exact h3))) (fun q ha hq => ?_)
            by_cases hij : i < j
            · exact hva j q ha hij hlt (by rw [set_getD hlt', if_pos rfl]) hq
            · obtain ⟨f, hf', hbx⟩ := ha.box
              rcases hl.look j i f hlt hil hf' (by rw [hbx]; exact hSL i hil q hq) hji with h1 | h1
              · have := h1.lt; omega
              · have := j_ahead i h1; rw [hli] at this; cases this
        · have hne : o.dst ≠ some t := fun hd => by
            have := hn j ⟨o, hoj, hd⟩
            rw [set_getD hlt', if_pos rfl] at this; cases this
          refine hoth t s hne (hm.still t s (fun i hi => ?_) hst (fun e q ha h1 h2 => hva e q ha h1 (by rw [set_getD hlt']; split <;> first | rfl | exact h2))) (fun q ha => hva j q ha hlt (by rw [set_getD hlt', if_pos rfl]))
          have := hn i hi
          rw [set_getD hlt'] at this
          split at this
          · cases this
          · exact this
    have hfnone : ∀ q, F j = none → ¬ Ap T F j q := fun q hF ha => by
      obtain ⟨f, hf', _⟩ := ha.box
      rw [hF] at hf'; cases hf'
    have stay : ∀ v E' w', F j = none → GR C m0 w0 E' (cs.put o.dst (S j)) (a.put o.dst v).tmps w' → wpAny P .any ops Q fuel (listed.setIfInBounds j true) (a.put o.dst v) w' := fun v E' w' hF hg =>
      next v E' w' _ p hg (fun t hd htl => by
        rw [hd]
        show (cs.t.set t (S j))[t]? = _
        rw [List.getElem?_set_self (by rw [hm.len]; exact htl)]) (fun t s hd hs _ => by
        cases hd' : o.dst with
        | none => exact hs
        | some d =>
          show (cs.t.set d (S j))[t]? = _
          rw [List.getElem?_set_ne (fun hh => hd (by rw [hd', hh]))]; exact hs) (by cases o.dst <;> simp [St.put]) hm.ple (fun e he hfe => by
        have hne : j ≠ e := fun h => by subst h; exact hfe hF
        rw [set_getD hlt', if_neg hne]
        exact hm.prog e he hfe) (by rw [put_bb]; exact hm.bx)
    unfold wpOp
    rw [hoj]
    simp only
    rw [hwant]
    rcases hcase with ⟨rfl, hF, hS, _⟩ | ⟨rfl, hF, _, hok, hL⟩ | ⟨rfl, f, hF, hS, hT', hok, hL⟩
    · rw [if_neg (by simp)]
      refine stay undef E w hF ?_
      rw [hS]; exact hm.gr.put_undef o.dst
    · rw [if_pos rfl]
      have hsee : ∀ q, q ∈ seen ops (T j) o → q ∈ L j := fun q hq => by rw [hL]; exact List.mem_append_left _ (List.mem_append_left _ hq)
      have hbox : ∀ q c, (dimB (seen ops (T j) o) 0 (T j).b)[q]? = some (some c) → cs.b[q]? = some (some c) := fun q c hq => by
        obtain ⟨h1, h2⟩ := dimB_get _ _ _ _ hq
        rw [Nat.zero_add] at h1
        rw [hm.bx]
        rcases Nat.le_total p j with hpj | hjp
        · have := ht.bup (a := p) (q := q) (c := c) (j - p) (by omega) (fun e f h3 h4 hfe hbx => by
            have hel : e < ops.size := by omega
            rcases hl.look e j f hel hlt hfe (by rw [hbx]; exact hsee q h1) (by omega) with h5 | h5
            · have := h5.lt; omega
            · have := (hm.prog e hel (by rw [hfe]; simp)).2 (ahead_j e h5); omega)
          rw [show p + (j - p) = j by omega] at this
          exact this h2
        · have hple := hm.ple
          have := ht.bdown h2 (p - j) (by omega) (fun e f h3 h4 hfe hbx => by
            have hel : e < ops.size := by omega
            have hne : e ≠ j := fun h => by subst h; rw [hF] at hfe; cases hfe
            rcases hl.look e j f hel hlt hfe (by rw [hbx]; exact hsee q h1) hne with h5 | h5
            · have h6 := j_ahead e h5
              have := (hm.prog e hel (by rw [hfe]; simp)).1 (by omega)
              rw [h6] at this; cases this
            · have := h5.lt; omega) (fun e k h3 h4 ha hk => by
            have hel : e < ops.size := by omega
            obtain ⟨f, hfe, hbx⟩ := ha.box
            have hne : e ≠ j := fun h => by subst h; rw [hF] at hfe; cases hfe
            have hkL : k ∈ L j := by
              rw [hL]
              refine List.mem_append_left _ (List.mem_append_right _ (List.mem_flatMap.2 ⟨q, h1, ?_⟩))
              rw [h2]; exact hk
            rcases hl.look e j f hel hlt hfe (by rw [hbx]; exact hkL) hne with h5 | h5
            · have h6 := j_ahead e h5
              have := (hm.prog e hel (by rw [hfe]; simp)).1 (by omega)
              rw [h6] at this; cases this
            · have := h5.lt; omega)
          rw [show j + (p - j) = p by omega] at this
          exact this
      have hfr : FR (· ∈ reads o) E ((T j).dim (seen ops (T j) o)) a.tmps w :=
        ⟨by show (T j).t.length = _; rw [hjl, ← hm.len]; exact hm.gr.fr.len, fun t s hX hs => hslots hsee t s (List.mem_append_left _ hX) hs, fun i tv hi => hm.gr.fr.boxes i tv (hbox i _ hi), fun i e t xs hi => hm.gr.fr.arrs i e t xs (hbox i _ hi), hm.gr.fr.inj, hm.gr.fr.inv⟩
      exact .inl (hok E a w _ Q hfr hm.gr.gl fun v m' w' hcg hi hs => stay v { E with m := m' } w' hF (hm.gr.of_chg hcg hi hs o.dst))
    · rw [if_pos rfl]
      have hsee : ∀ q, q ∈ seen ops (T j) o → q ∈ L j := fun q hq => by rw [hL]; exact List.mem_append_left _ (List.mem_append_left _ hq)
      have hFj : F j ≠ none := by rw [hF]; simp
      have hpj : p ≤ j := by
        rcases Nat.lt_or_ge j p with h | h
        · have := (hm.prog j hlt hFj).1 h; rw [hf] at this; cases this
        · exact h
      have hcb : cs.b = (T j).b := by
        rw [hm.bx]
        have := ht.bstay (a := p) (j - p) (by omega) (fun e h1 h2 => by
          have hel : e < ops.size := by omega
          cases hfe : F e with
          | none => rfl
          | some f' =>
            have := (hm.prog e hel (by rw [hfe]; simp)).2 (ahead_j e (hl.tot e j hel hlt (by rw [hfe]; simp) hFj (by omega)))
            omega)
        rw [show p + (j - p) = j by omega] at this
        exact this.symm
      have hfr : FR (· ∈ reads o) E (T j) a.tmps w :=
        ⟨by rw [hjl, ← hm.len]; exact hm.gr.fr.len, fun t s hX hs => hslots hsee t s (List.mem_append_left _ hX) hs, fun i tv hi => hm.gr.fr.boxes i tv (by rw [hcb]; exact hi), fun i e t xs hi => hm.gr.fr.arrs i e t xs (by rw [hcb]; exact hi), hm.gr.fr.inj, hm.gr.fr.inv⟩
      have hslotE : f.slot cs = f.slot (T j) := by cases f <;> simp [Eff.slot, hcb]
      refine .inl (hok m0 w0 E a w cs _ Q hfr hcb hm.gr fun v E' w' hg => next v E' w' _ (j + 1) hg (fun t hd htl => ?_) (fun t s hd hs hap => ?_) (ap_len _ _ _) hlt (fun e he hfe => ?_) ?_)
      · rw [hd, ap_dst f t cs (by rw [hm.len]; exact htl), hslotE, hS]
      · refine ap_stay f _ cs t hd hs fun k e u zs hh => hap k ?_
        rcases hh with rfl | ⟨rfl, hk⟩
        · exact .inl ⟨_, _, _, hF⟩
        · exact .inr ⟨_, _, _, hF, by rw [hk, hcb]⟩
      · rw [set_getD hlt']
        by_cases hje : j = e
        · subst hje; rw [if_pos rfl]; simp
        · rw [if_neg hje]
          rcases Nat.lt_or_ge e j with h | h
          · have := ahead_j e (hl.tot e j he hlt hfe hFj h)
            rw [this]; simp; omega
          · have := j_ahead e (hl.tot j e hlt he hFj hfe (by omega))
            rw [this]; simp; omega
      · rw [ap_bcong f _ _ _ hcb, hT']

theorem region_draw_ok {sp : Specs} (hsp : ∀ g s, sp g = some s → SoundX P C g s) {n id : Nat} {ops : Array Oper} {st : St} {K : St → Option R} {r : R} {E : Env} {a : Act} {w : World} {Q : Exit → Act → World → Prop} {ds : List Deferred} (hd : drawOk P ops = true)
    (h : opsP P sp n ops ops.toList 0 st [] K = some r) (hg : GR C m0 w0 E st a.tmps w) (hds : a.defers = ds)
    (hQ : ∀ st' E' a' w', K st' = some r → GR C m0 w0 E' st' a'.tmps w' → a'.defers = ds → Q .normal a' w') : (Code.region id ops true).wp P Q a w := by
  obtain ⟨hmix, ho⟩ := ord_of hd
  obtain ⟨S, T, L, F, G, hT, hK, ht, hlog, hmem, _, hP⟩ := opsP_ok hsp ops.toList 0 st [] rfl (Nat.zero_le _) h
  rw [List.append_nil] at hlog
  refine wp_region_any hmix (draw_ok ho (log_of hlog hmem hP) ht hT (fun E' a' w' hg' hd' => hQ _ E' a' w' hK hg' hd') ops.size _ E a _ st 0 ?_ ?_)
  · unfold left_
    refine Nat.le_trans (List.length_filter_le _ _) ?_
    simp
  · have hc : Chg C E.m w E.m { w with drawn := w.drawn + 1 } := ⟨rfl, rfl, rfl, fun _ => Nat.le_succ _, Nat.le_refl _, fun _ _ _ => rfl, fun _ _ => rfl⟩
    have hnone : ∀ i, (Array.replicate ops.size false).getD i false = false := fun i => by
      rw [Array.getD_eq_getD_getElem?, Array.getElem?_replicate]; split <;> rfl
    refine ⟨by simp, fun i o _ h => ?_, fun i t h => ?_, fun t s _ hs _ => hs, rfl, Nat.zero_le _, fun e he _ => ?_, by rw [hT], ⟨⟨hg.fr.len, hg.fr.slots, hg.fr.boxes, hg.fr.arrs, hg.fr.inj, hg.fr.inv⟩, hg.chg.trans hc (fun _ _ q => q), hg.own, hg.lt, hg.top, hg.gl⟩, hds⟩
    · rw [hnone] at h; cases h
    · rw [hnone] at h; cases h
    · rw [hnone]; simp
end
end Go.Proofs.YtadamegddcadcaaGreatDoorPi

namespace Go.Proofs.YtadamegddcadcaaGreatDoorPi
open Go

def Env.cut (E : Env) (nb : Nat) : Env := { E with β := fun i => if i < nb then E.β i else none, τ := fun i => if i < nb then E.τ i else none }
theorem cut_β {E : Env} {nb i : Nat} (h : i < nb) : (E.cut nb).β i = E.β i := by show (if i < nb then _ else _) = _; rw [if_pos h]
theorem cut_τ {E : Env} {nb i : Nat} (h : i < nb) : (E.cut nb).τ i = E.τ i := by show (if i < nb then _ else _) = _; rw [if_pos h]
theorem rep_low {E : Env} {nb : Nat} {t : Ty} {x : t.den} {cs : List Value} (h : t.on (fun i => decide (i < nb)) = true) (r : rep E t x cs) : rep (E.cut nb) t x cs :=
  rep_on (E := E) (E' := E.cut nb) (p := fun i => decide (i < nb)) (fun _ _ _ q => q) (fun i b hi q => by rw [cut_β (of_decide_eq_true hi)]; exact q) (fun i b hi q => by rw [cut_τ (of_decide_eq_true hi)]; exact q) t x cs h r
theorem reps_low {E : Env} {nb : Nat} {t : Ty} {xs : List t.den} {l : List Value} (h : t.on (fun i => decide (i < nb)) = true) (r : reps E t xs l) : reps (E.cut nb) t xs l :=
  reps_on (E := E) (E' := E.cut nb) (p := fun i => decide (i < nb)) (fun _ _ _ q => q) (fun i b hi q => by rw [cut_β (of_decide_eq_true hi)]; exact q) (fun i b hi q => by rw [cut_τ (of_decide_eq_true hi)]; exact q) h xs l r

theorem keepS_get {k : List Nat} {p : Nat → Bool} : ∀ (l : List Slot) (i j : Nat) (s : Slot), (keepS k p i l)[j]? = some s → ∃ s0, l[j]? = some s0 ∧ (s = .junk ∨ (s = s0 ∧ (s0 = .undef ∨ ∃ x, s0 = .v x ∧ x.t.on p = true)))
  | [], _, _, _, h => by simp [keepS] at h
  | s0 :: l, i, 0, s, h => by
    refine ⟨s0, rfl, ?_⟩
    simp only [keepS, List.getElem?_cons_zero, Option.some.injEq] at h
    split at h
    · split at h
      · rename_i x
        split at h
        · rename_i hx; exact .inr ⟨h.symm, .inr ⟨x, rfl, hx⟩⟩
        · exact .inl h.symm
      · exact .inr ⟨h.symm, .inl rfl⟩
      · exact .inl h.symm
    · exact .inl h.symm
  | s0 :: l, i, j + 1, s, h => by
    simp only [keepS, List.getElem?_cons_succ] at h
    obtain ⟨s1, h1, h2⟩ := keepS_get l (i + 1) j s h
    exact ⟨s1, by simpa using h1, h2⟩
theorem keepS_length {k : List Nat} {p : Nat → Bool} : ∀ (l : List Slot) (i : Nat), (keepS k p i l).length = l.length
  | [], _ => rfl
  | _ :: l, i => by simp [keepS, keepS_length l (i + 1)]
theorem keepB_get {p : Nat → Bool} : ∀ (l : List (Option Bx)) (j : Nat) (c : Bx), (keepB p l)[j]? = some (some c) → ∃ o, l[j]? = some o ∧ offB p o = some c
  | [], _, _, h => by simp [keepB] at h
  | x :: l, 0, c, h => by
    simp only [keepB, List.getElem?_cons_zero, Option.some.injEq] at h
    exact ⟨x, rfl, h⟩
  | x :: l, j + 1, c, h => by
    simp only [keepB, List.getElem?_cons_succ] at h
    obtain ⟨o, h1, h2⟩ := keepB_get l j c h
    exact ⟨o, by simpa using h1, h2⟩
theorem keepB_length {p : Nat → Bool} : ∀ (l : List (Option Bx)), (keepB p l).length = l.length
  | [] => rfl
  | _ :: l => by simp [keepB, keepB_length l]

section
variable {P : Program} {C : Ctx} {m0 : Mem} {w0 : World} {E : Env} {st : St} {a : Act} {w : World}

theorem GR.keep {tmps : Array Value} (h : GR C m0 w0 E st tmps w) (k : List Nat) (nb : Nat) : GR C m0 w0 (E.cut nb) (st.keep k nb) tmps w := by
  have hβ : ∀ i b, (E.cut nb).β i = some b → i < nb ∧ E.β i = some b := fun i b hb => by
    have hb' : (if i < nb then E.β i else none) = some b := hb
    split at hb'
    · exact ⟨by assumption, hb'⟩
    · cases hb'
  have at_ : ∀ i (c : Bx), (keepB (fun i => decide (i < nb)) (st.b.take nb))[i]? = some (some c) → i < nb ∧ ∃ o, st.b[i]? = some o ∧ offB (fun i => decide (i < nb)) o = some c := fun i c hc => by
    obtain ⟨o, h1, h2⟩ := keepB_get _ i c hc
    have hi : i < nb := by
      have h3 : i < (st.b.take nb).length := (List.getElem?_eq_some_iff.1 h1).1
      rw [List.length_take] at h3; omega
    rw [List.getElem?_take, if_pos hi] at h1
    exact ⟨hi, o, h1, h2⟩
  refine ⟨⟨by show (keepS k _ 0 st.t).length = _; rw [keepS_length]; exact h.fr.len, fun i s _ hs => ?_, fun i t ht => ?_, fun i e t xs ht => ?_, fun i j b hi hj => h.fr.inj i j b (hβ _ _ hi).2 (hβ _ _ hj).2, h.fr.inv⟩, h.chg, fun i b hb => h.own i b (hβ _ _ hb).2, fun i b hb => h.lt i b (hβ _ _ hb).2, fun i hi => ?_, h.gl⟩
  · obtain ⟨s0, h0, rfl | ⟨rfl, rfl | ⟨x, rfl, hx⟩⟩⟩ := keepS_get st.t 0 i s hs
    · trivial
    · exact h.fr.slots i _ trivial h0
    · obtain ⟨cs, r, e⟩ := h.fr.slots i _ trivial h0
      exact ⟨cs, rep_low hx r, e⟩
  · obtain ⟨hi, o, h1, h2⟩ := at_ i _ ht
    obtain ⟨rfl, hto⟩ := offB_one h2
    obtain ⟨blk, cs, e, hb, hh, hr, hm⟩ := h.fr.boxes i t h1
    exact ⟨blk, cs, e, by rw [cut_β hi]; exact hb, hh, rep_low hto hr, hm⟩
  · obtain ⟨hi, o, h1, h2⟩ := at_ i _ ht
    obtain ⟨rfl, hto⟩ := offB_arr h2
    obtain ⟨v, l, q1, q2, q3, q4, q5⟩ := h.fr.arrs i e t xs h1
    exact ⟨v, l, by rw [cut_τ hi]; exact q1, q2, reps_low hto q3, by rw [cut_β hi]; exact q4, q5⟩
  · have hi' : (keepB (fun i => decide (i < nb)) (st.b.take nb)).length ≤ i := hi
    rw [keepB_length, List.length_take] at hi'
    by_cases hlt : i < nb
    · rw [cut_β hlt, cut_τ hlt]; exact h.top i (by omega)
    · exact ⟨by show (if i < nb then _ else _) = _; rw [if_neg hlt], by show (if i < nb then _ else _) = _; rw [if_neg hlt]⟩

theorem GR.setS {tmps : Array Value} (h : GR C m0 w0 E st tmps w) (s : Nat) (x : Slot) (hx : ∀ y, st.t[s]? = some y → SlotRep E x (tmps.getD s undef)) : GR C m0 w0 E { st with t := st.t.set s x } tmps w :=
  ⟨⟨by show (st.t.set s x).length = _; rw [List.length_set]; exact h.fr.len, fun i q hi hq => by
    have hq' : (st.t.set s x)[i]? = some q := hq
    rw [List.getElem?_set] at hq'
    split at hq'
    · rename_i e; subst e
      split at hq'
      · rename_i hlt
        obtain rfl := Option.some.inj hq'
        exact hx _ (List.getElem?_eq_getElem hlt)
      · cases hq'
    · exact h.fr.slots i q hi hq', h.fr.boxes, h.fr.arrs, h.fr.inj, h.fr.inv⟩, h.chg, h.own, h.lt, h.top, h.gl⟩
theorem GR.coeT {tmps : Array Value} (h : GR C m0 w0 E st tmps w) (s : Nat) (T : Ty) : GR C m0 w0 E (st.coeT s T) tmps w := by
  unfold St.coeT
  split
  · rename_i tv htv
    split
    · rename_i y hy
      exact h.setS s _ fun _ _ => castTV_ok hy (h.fr.slots s _ trivial htv)
    · exact h
  · exact h
/-- An array under construction is given another number. -/
theorem GR.ren {tmps : Array Value} (h : GR C m0 w0 E st tmps w) (s k j : Nat) (u : Ty) (e : TypeId) (hs : ∀ y, st.t[s]? = some y → ∃ u' x, y = .v ⟨.sl k u', x⟩) : ∃ E', GR C m0 w0 E' (st.ren s k j u e) tmps w := by
  unfold St.ren
  split
  · rename_i o0 e' u' xs hj hk
    split
    · rename_i hc
      obtain ⟨hkj, rfl, rfl, hon⟩ := hc
      let E' : Env := { E with β := fun i => if i = j then E.β k else if i = k then none else E.β i, τ := fun i => if i = j then E.τ k else if i = k then none else E.τ i }
      have hm : ∀ b j u, E.m b j = some u → E'.m b j = some u := fun _ _ _ q => q
      have hne : ∀ i, (i != k && i != j) = true → i ≠ k ∧ i ≠ j := fun i hi => by simpa using hi
      have bo : ∀ i, i ≠ k → i ≠ j → E'.β i = E.β i := fun i h1 h2 => by show (if _ then _ else if _ then _ else _) = _; rw [if_neg h2, if_neg h1]
      have to : ∀ i, i ≠ k → i ≠ j → E'.τ i = E.τ i := fun i h1 h2 => by show (if _ then _ else if _ then _ else _) = _; rw [if_neg h2, if_neg h1]
      have bj : E'.β j = E.β k := by show (if _ then _ else _) = _; rw [if_pos rfl]
      have tj : E'.τ j = E.τ k := by show (if _ then _ else _) = _; rw [if_pos rfl]
      have bk : E'.β k = none := by show (if _ then _ else if _ then _ else _) = _; rw [if_neg hkj, if_pos rfl]
      have tk : E'.τ k = none := by show (if _ then _ else if _ then _ else _) = _; rw [if_neg hkj, if_pos rfl]
      have hβ' : ∀ i b, (i != k && i != j) = true → E.β i = some b → E'.β i = some b := fun i b hi q => by rw [bo i (hne i hi).1 (hne i hi).2]; exact q
      have hτ' : ∀ i v, (i != k && i != j) = true → E.τ i = some v → E'.τ i = some v := fun i v hi q => by rw [to i (hne i hi).1 (hne i hi).2]; exact q
      obtain ⟨v, l, hτ, ho, hr, hβ, hmv⟩ := h.fr.arrs k e' u' xs hk
      have hjl : j < st.b.length := (List.getElem?_eq_some_iff.1 hj).1
      have hkl : k < st.b.length := (List.getElem?_eq_some_iff.1 hk).1
      have hlen : (((st.off fun i => i != k && i != j).b.set k none).set j (some (Bx.arr e' u' xs))).length = st.b.length := by simp [St.off]
      have at_ : ∀ i (c : Bx), (((st.off fun i => i != k && i != j).b.set k none).set j (some (Bx.arr e' u' xs)))[i]? = some (some c) → (i = j ∧ c = .arr e' u' xs) ∨ (i ≠ k ∧ i ≠ j ∧ ∃ o, st.b[i]? = some o ∧ offB (fun i => i != k && i != j) o = some c) := fun i c hc => by
        rw [List.getElem?_set] at hc
        by_cases h1 : j = i
        · rw [if_pos h1] at hc
          split at hc
          · simp only [Option.some.injEq] at hc; exact .inl ⟨h1.symm, hc.symm⟩
          · cases hc
        · rw [if_neg h1, List.getElem?_set] at hc
          by_cases h2 : k = i
          · rw [if_pos h2] at hc
            split at hc
            · cases hc
            · cases hc
          · rw [if_neg h2] at hc
            have hc' : (st.b.map (offB fun i => i != k && i != j))[i]? = some (some c) := hc
            rw [List.getElem?_map, Option.map_eq_some_iff] at hc'
            exact .inr ⟨fun q => h2 q.symm, fun q => h1 q.symm, hc'⟩
      have back : ∀ i b, E'.β i = some b → ∃ i', E.β i' = some b ∧ (i = j ∧ i' = k ∨ i ≠ j ∧ i ≠ k ∧ i' = i) := fun i b hb => by
        by_cases h1 : i = j
        · rw [h1, bj] at hb; exact ⟨k, hb, .inl ⟨h1, rfl⟩⟩
        · by_cases h2 : i = k
          · rw [h2, bk] at hb; cases hb
          · rw [bo i h2 h1] at hb; exact ⟨i, hb, .inr ⟨h1, h2, rfl⟩⟩
      refine ⟨E', ⟨?_, fun i x _ hx => ?_, fun i tv hi => ?_, fun i e2 t2 zs hi => ?_, fun i i' b hb hb' => ?_, h.fr.inv⟩, h.chg, fun i b hb => ?_, fun i b hb => ?_, fun i hi => ?_, h.gl⟩
      · show ((st.t.map _).set s _).length = _
        rw [List.length_set, List.length_map]; exact h.fr.len
      · have hx' : ((st.t.map (offS fun i => i != k && i != j)).set s (.v ⟨.sl j u', ()⟩))[i]? = some x := hx
        rw [List.getElem?_set] at hx'
        split at hx'
        · rename_i hsi
          subst hsi
          split at hx'
          · rename_i hlt
            obtain rfl := Option.some.inj hx'
            have hlt' : s < st.t.length := by simpa using hlt
            obtain ⟨u2, x2, hy⟩ := hs _ (List.getElem?_eq_getElem hlt')
            obtain ⟨A, n, cap, hv2, hτ2⟩ := vrep_sl (E := E) (k := k) (t := u2) (x := x2) (by
              have := h.fr.slots s _ trivial (List.getElem?_eq_getElem hlt')
              rw [hy] at this; exact this)
            rw [hv2]
            exact ⟨[_], ⟨A, n, cap, by rw [tj]; exact hτ2, rfl⟩, rfl⟩
          · cases hx'
        · rw [List.getElem?_map, Option.map_eq_some_iff] at hx'
          obtain ⟨s0, h0, rfl⟩ := hx'
          exact offS_ok hm hβ' hτ' (h.fr.slots i s0 trivial h0)
      · rcases at_ i _ hi with ⟨_, q⟩ | ⟨h1, h2, o, ho1, ho2⟩
        · cases q
        · obtain ⟨rfl, hto⟩ := offB_one ho2
          obtain ⟨blk, cs, e3, hb, hh, r, hmn⟩ := h.fr.boxes i tv ho1
          exact ⟨blk, cs, e3, by rw [bo i h1 h2]; exact hb, hh, rep_on hm hβ' hτ' _ _ _ hto r, hmn⟩
      · rcases at_ i _ hi with ⟨rfl, q⟩ | ⟨h1, h2, o, ho1, ho2⟩
        · simp only [Bx.arr.injEq] at q
          obtain ⟨rfl, rfl, q⟩ := q
          obtain rfl := eq_of_heq q
          exact ⟨v, l, by rw [tj]; exact hτ, ho, reps_on hm hβ' hτ' hon _ _ hr, by rw [bj]; exact hβ, hmv⟩
        · obtain ⟨rfl, hto⟩ := offB_arr ho2
          obtain ⟨v2, l2, q1, q2, q3, q4, q5⟩ := h.fr.arrs i e2 t2 zs ho1
          exact ⟨v2, l2, by rw [to i h1 h2]; exact q1, q2, reps_on hm hβ' hτ' hto _ _ q3, by rw [bo i h1 h2]; exact q4, q5⟩
      · obtain ⟨x, hx, hx2⟩ := back i b hb
        obtain ⟨y, hy, hy2⟩ := back i' b hb'
        have := h.fr.inj x y b hx hy
        omega
      · obtain ⟨x, hx, _⟩ := back i b hb; exact h.own x b hx
      · obtain ⟨x, hx, _⟩ := back i b hb; exact h.lt x b hx
      · have hi' : st.b.length ≤ i := by rw [← hlen]; exact hi
        exact ⟨by rw [bo i (by omega) (by omega)]; exact (h.top i hi').1, by rw [to i (by omega) (by omega)]; exact (h.top i hi').2⟩
    · exact ⟨E, h⟩
  · exact ⟨E, h⟩
theorem GR.coe1 {tmps : Array Value} (h : GR C m0 w0 E st tmps w) (c : Nat × Ty × TypeId) : ∃ E', GR C m0 w0 E' (st.coe1 c) tmps w := by
  unfold St.coe1
  split
  · rename_i s j u e k u' y hs
    exact h.ren s k j u e (fun z hz => ⟨_, _, Option.some.inj (hz.symm.trans hs)⟩)
  · rename_i s j u e u' y hs
    split
    · rename_i hc
      obtain ⟨rfl, rfl⟩ := hc
      obtain ⟨E', hle, hτ, hg⟩ := h.nil e u'
      have hv := vrep_nl (h.fr.slots s _ trivial hs)
      refine ⟨E', (hg.setS s (.v ⟨.sl st.b.length u', ()⟩) fun _ _ => ?_)⟩
      rw [hv]
      exact ⟨[_], ⟨_, _, _, hτ, rfl⟩, rfl⟩
    · exact ⟨E, h⟩
  · exact ⟨E, h⟩
  · rename_i s T e _ _ _
    obtain ⟨E1, h1⟩ := h.frzO true (.tmp s)
    exact ⟨E1, h1.coeT s T⟩
theorem GR.coe {tmps : Array Value} : ∀ (l : List (Nat × Ty × TypeId)) (E : Env) (st : St), GR C m0 w0 E st tmps w → ∃ E', GR C m0 w0 E' (st.coe l) tmps w
  | [], E, _, h => ⟨E, h⟩
  | c :: r, _, _, h => by
    obtain ⟨E1, h1⟩ := h.coe1 c
    exact GR.coe r E1 _ h1

theorem GR.keepA {tmps : Array Value} (h : GR C m0 w0 E st tmps w) (an : An) : ∃ E', GR C m0 w0 E' (st.keepA an) tmps w := by
  unfold St.keepA
  split
  · obtain ⟨E1, h1⟩ := GR.coe _ E st h; exact ⟨_, h1.keep _ _⟩
  · obtain ⟨E1, h1⟩ := GR.coe _ E st h; exact ⟨_, h1.keep _ _⟩
  · exact ⟨_, h⟩

def Ex.out : Ex → Exit
  | .norm => .normal
  | .exit id => .exit id
  | .ret => .ret

theorem least (p : Nat → Prop) (h : ∃ n, p n) : ∃ n, p n ∧ ∀ m, p m → n ≤ m := by
  obtain ⟨n, hn⟩ := h
  induction n using Nat.strongRecOn with
  | _ n ih =>
    by_cases hm : ∃ m, m < n ∧ p m
    · obtain ⟨m, hlt, hp⟩ := hm
      exact ih m hlt hp
    · exact ⟨n, hn, fun m hp => Nat.le_of_not_lt fun hlt => hm ⟨m, hlt, hp⟩⟩

/-- A loop, by its rounds. -/
theorem wp_loop_rounds {c : Code} {Q : Exit → Act → World → Prop} (G : Nat → Act → World → Prop) {n : Nat} (h0 : G n a w)
    (hr : ∀ n a w, G n a w → ∃ k, n = k + 1 ∧ c.wp P (Exit.then (G k) Q) a w) : (Code.loop c).wp P Q a w := by
  have hl : ∀ a w, ∃ m, (∃ n, G n a w) → G m a w ∧ ∀ k, G k a w → m ≤ k := fun a w => by
    by_cases h : ∃ n, G n a w
    · obtain ⟨m, hm⟩ := least _ h
      exact ⟨m, fun _ => hm⟩
    · exact ⟨0, fun h' => absurd h' h⟩
  refine wp_loop (fun a w => ∃ n, G n a w) (fun a w => (hl a w).choose) ⟨n, h0⟩ fun a w hi => ?_
  obtain ⟨hg, hmin⟩ := (hl a w).choose_spec hi
  obtain ⟨k, hk, hw⟩ := hr _ a w hg
  refine wp_mono hw fun e a' w' hq => ?_
  cases e <;> try exact hq
  refine ⟨⟨k, hq⟩, ?_⟩
  have := ((hl a' w').choose_spec ⟨k, hq⟩).2 k hq
  omega

variable {R : Type}
theorem codeK_ok {sp : Specs} (hsp : ∀ g s, sp g = some s → SoundX P C g s) {n : Nat} {r : R} {ds : List Deferred} : ∀ (c : Code) (an : An) (st : St) (K : Ex → St → Option R) (E : Env) (a : Act) (w : World) (Q : Exit → Act → World → Prop),
    codeK P sp n c an st K = some r → GR C m0 w0 E st a.tmps w → a.defers = ds →
    (∀ e st' E' a' w', K e st' = some r → GR C m0 w0 E' st' a'.tmps w' → a'.defers = ds → Q e.out a' w') → c.wp P Q a w := by
  intro c
  induction c with
  | skip => intro an st K E a w Q h hg hd hQ; exact wp_skip (hQ .norm st E a w h hg hd)
  | region id ops draw =>
    intro an st K E a w Q h hg hd hQ
    cases draw with
    | true =>
      simp only [codeK] at h
      split at h
      · rename_i hdr
        obtain ⟨E1, hg1⟩ := GR.frzL false _ E st hg
        exact region_draw_ok hsp hdr h hg1 hd (fun st' E' a' w' hk hg' hd' => hQ .norm st' E' a' w' hk hg' hd')
      · cases h
    | false =>
      simp only [codeK] at h
      refine wp_region ?_
      have := opsK_ok hsp (fun st' E' a' w' hk hg' hd' => hQ .norm st' E' a' w' hk hg' hd') ops.toList 0 st E a w rfl h hg hd
      rw [List.range_eq_range']
      simpa using this
  | seq x y ihx ihy =>
    intro an st K E a w Q h hg hd hQ
    simp only [codeK] at h
    refine wp_seq (ihx an.left st _ E a w _ h hg hd fun e st' E' a' w' hk hg' hd' => ?_)
    cases e with
    | norm =>
      obtain ⟨E2, hg2⟩ := hg'.keepA an
      exact ihy an.right _ K E2 a' w' Q hk hg2 hd' hQ
    | exit id => exact hQ _ _ E' a' w' hk hg' hd'
    | ret => exact hQ _ _ E' a' w' hk hg' hd'
  | cond c x y ihx ihy =>
    intro an st K E a w Q h hg hd hQ
    simp only [codeK] at h
    split at h
    · rename_i b hb
      have hv := vrep_bool (opd_ok hg.fr (fun _ _ => trivial) hb)
      rcases bif_some h with ⟨rfl, h2⟩ | ⟨rfl, h2⟩
      · exact wp_cond_true hv (ihx _ _ _ E a w Q h2 (hg.knowO hv) hd hQ)
      · exact wp_cond_false hv (ihy _ _ _ E a w Q h2 (hg.knowO hv) hd hQ)
    · cases h
  | block id x ih =>
    intro an st K E a w Q h hg hd hQ
    simp only [codeK] at h
    refine wp_block (ih an.left st _ E a w _ h hg hd fun e st' E' a' w' hk hg' hd' => ?_)
    cases e with
    | norm => exact hQ _ _ E' a' w' hk hg' hd'
    | exit j =>
      simp only [Ex.out, Exit.inBlock]
      simp only at hk
      split at hk
      · rename_i hj; rw [if_pos hj]; exact hQ .norm _ E' a' w' hk hg' hd'
      · rename_i hj; rw [if_neg hj]; exact hQ (.exit j) _ E' a' w' hk hg' hd'
    | ret => exact hQ _ _ E' a' w' hk hg' hd'
  | loop x ih =>
    intro an st K E a w Q h hg hd hQ
    simp only [codeK] at h
    obtain ⟨E1, hg1⟩ := hg.keepA an
    refine wp_loop_rounds (fun k a w => ∃ E st, rounds (fun rec st => codeK P sp n x an.left st fun e st' => match e with
      | .norm => rec (st'.keepA an)
      | e => K e st') k st = some r ∧ GR C m0 w0 E st a.tmps w ∧ a.defers = ds) ⟨E1, _, h, hg1, hd⟩ fun k a w hk => ?_
    obtain ⟨E, st, h, hg, hd⟩ := hk
    cases k with
    | zero => cases h
    | succ k =>
      refine ⟨k, rfl, ?_⟩
      simp only [rounds] at h
      refine ih an.left st _ E a w _ h hg hd fun e st' E' a' w' hk hg' hd' => ?_
      cases e with
      | norm =>
        obtain ⟨E2, hg2⟩ := hg'.keepA an
        exact ⟨E2, _, hk, hg2, hd'⟩
      | exit j => exact hQ _ _ E' a' w' hk hg' hd'
      | ret => exact hQ _ _ E' a' w' hk hg' hd'
  | exit id => intro an st K E a w Q h hg hd hQ; exact wp_exit (hQ (.exit id) st E a w h hg hd)
  | label l => intro an st K E a w Q h hg hd hQ; exact wp_label (hQ .norm st E a w h hg hd)
  | ret => intro an st K E a w Q h hg hd hQ; exact wp_ret (hQ .ret st E a w h hg hd)
  | _ => intro an st K E a w Q h; simp [codeK] at h
end
end Go.Proofs.YtadamegddcadcaaGreatDoorPi

namespace Go.Proofs.YtadamegddcadcaaGreatDoorPi
open Go

def plain : Ty → Bool
  | .pair a b => plain a && plain b
  | .list t | .nl t | .ref t | .opt t => plain t
  | .sl _ _ | .ptr _ _ _ | .ep _ _ _ _ => false
  | .fn _ _ b => plain b
  | _ => true

theorem plain_on : ∀ (t : Ty), plain t = true → t.on (fun _ => false) = true
  | .unit, _ | .bool, _ | .int _, _ | .str, _ => rfl
  | .pair a b, h => by
    simp only [plain, Bool.and_eq_true] at h
    simp [Ty.on, plain_on a h.1, plain_on b h.2]
  | .list t, h | .nl t, h | .ref t, h | .opt t, h => by simp only [plain] at h; simp [Ty.on, plain_on t h]
  | .fn _ _ b, h => by simp only [plain] at h; simp [Ty.on, plain_on b h]
  | .sl _ _, h | .ptr _ _ _, h | .ep _ _ _ _, h => by simp [plain] at h
theorem rep_plain {E E' : Env} (he : E.m = E'.m) (t : Ty) (x : t.den) (cs : List Value) (h : plain t = true) (r : rep E t x cs) : rep E' t x cs :=
  rep_on (p := fun _ => false) (fun b j v q => by rw [← he]; exact q) (fun _ _ q => by cases q) (fun _ _ q => by cases q) t x cs (plain_on t h) r
theorem vals_plain {E E' : Env} (he : E.m = E'.m) : ∀ (t : Ty) (x : t.den) (vs : List Value), plain t = true → vals E t x vs → vals E' t x vs
  | .unit, _, _, _, r => r
  | .pair a b, _, _, h, ⟨v, vs', e, ⟨cs, r, hv⟩, r2⟩ => by
    simp only [plain, Bool.and_eq_true] at h
    exact ⟨v, vs', e, ⟨cs, rep_plain he a _ _ h.1 r, hv⟩, vals_plain he b _ _ h.2 r2⟩

section
variable {P : Program} {C : Ctx} {m0 : Mem} {w0 : World} {E : Env} {st : St} {w : World}

theorem loadK_val {ty : TypeId} {a : TV} {s : Slot} (h : loadK P st ty a some = some s) :
    ∀ (X : Nat → Prop) (E : Env) (tmps : Array Value) (w : World) (va : Value), FR X E st tmps w → VRep E a.t a.x va → ∃ ad v, va = .pointer (some ad) ∧ (loadVar ty ad).run P w = .ok v w ∧ SlotRep E s v := by
  obtain ⟨s', hs, hv⟩ := loadK_ok h
  obtain rfl := Option.some.inj hs
  intro X E tmps w va hf ha
  obtain ⟨v, hrun, hr⟩ := hv X E tmps w va hf ha
  cases va with
  | pointer p =>
    cases p with
    | none => simp [Instr.loadAt, Instr.sureAddr] at hrun
    | some ad =>
      refine ⟨ad, v, rfl, ?_, hr⟩
      simpa [Instr.loadAt, Instr.sureAddr] using hrun
  | _ => simp [Instr.loadAt, Instr.sureAddr] at hrun

def resV (tmps : Array Value) : ResultVar → Sem Value
  | .tmp t => pure (tmps.getD t undef)
  | .cell a t => do loadVar t (← asAddr (tmps.getD a undef))

/-- All that the frame has made is laid down for good. -/
noncomputable def allM (E : Env) (w : World) : Mem := fun b j => open Classical in if ∃ i, E.β i = some b then w.cell? ⟨b, j, none⟩ else E.m b j
theorem allM_le (hi : Inv E.m w) : ∀ b j v, E.m b j = some v → allM E w b j = some v := fun b j v hv => by
  unfold allM
  split
  · exact hi b j v hv
  · exact hv
theorem allM_inv (hi : Inv E.m w) : Inv (allM E w) w := fun b j v hv => by
  unfold allM at hv
  split at hv
  · exact hv
  · exact hi b j v hv
theorem allM_at {i b : Nat} (h : E.β i = some b) (j : Nat) : allM E w b j = w.cell? ⟨b, j, none⟩ := by
  unfold allM; rw [if_pos ⟨i, h⟩]
noncomputable abbrev Env.all (E : Env) (w : World) : Env := { E with m := allM E w }

theorem deep_ok {X : Nat → Prop} {tmps : Array Value} (hf : FR X E st tmps w) : ∀ (n : Nat) (t : Ty) (x : t.den) (cs : List Value), rep E t x cs → rep (E.all w) (deep st.b n t x).t (deep st.b n t x).x cs := by
  have hle : E.le (E.all w) := Env.le_m (allM_le hf.inv)
  intro n
  induction n with
  | zero => intro t x cs r; exact rep_mono hle _ _ _ r
  | succ n ih =>
    intro t x cs r
    cases t with
    | pair a c =>
      obtain ⟨c1, c2, e, r1, r2⟩ := r
      exact ⟨c1, c2, e, ih _ _ _ r1, ih _ _ _ r2⟩
    | sl k t =>
      generalize hD : deep st.b (n + 1) (.sl k t) x = D
      simp only [deep] at hD
      split at hD
      · rename_i e t' xs hk
        split at hD
        · subst hD
          obtain ⟨A, m, cap, hτ, rfl⟩ := r
          obtain ⟨v, l, ht, ho, hr, hβ, _⟩ := hf.arrs k e t' xs hk
          obtain rfl := Option.some.inj (hτ.symm.trans ht)
          rcases ho.2 with ⟨hv, hn⟩ | ⟨g, cap', cur, hv, _, hg, hnc, _, _, htake⟩
          · have hxs : xs = [] := List.eq_nil_of_length_eq_zero hn
            simp only [Value.slice.injEq] at hv
            obtain ⟨rfl, rfl, rfl⟩ := hv
            subst hxs
            exact ⟨none, 0, rfl, fun _ => rfl, Nat.le_refl _, fun i x hx => by simp at hx⟩
          · simp only [Value.slice.injEq] at hv
            obtain ⟨rfl, rfl, rfl⟩ := hv
            refine ⟨some ⟨g, 0, none⟩, cap, rfl, fun q => (nomatch q), hnc, fun j x hx => ?_⟩
            obtain ⟨pre, c, post, hl2, hp, hrc, _⟩ := reps_at xs l j x hr hx
            refine ⟨⟨g, 0, none⟩, c, rfl, rfl, rep_mono hle _ _ _ hrc, rfl, fun q v hq => ?_⟩
            show allM E w g (0 + j * t'.size + q) = some v
            rw [allM_at hβ]
            have := ho.cells (g := g) rfl (0 + j * t'.size + q) v (by
              rw [hl2, List.append_assoc, List.getElem?_append_right (by omega), show 0 + j * t'.size + q - pre.length = q by omega, List.getElem?_append_left (List.getElem?_eq_some_iff.1 hq).1]
              exact hq)
            rw [add_spotless, Nat.zero_add] at this
            exact this
        · subst hD; exact rep_mono hle _ _ _ r
      · subst hD; exact rep_mono hle _ _ _ r
    | ptr k o t =>
      generalize hD : deep st.b (n + 1) (.ptr k o t) x = D
      simp only [deep] at hD
      split at hD
      · rename_i c hk
        split at hD
        · rename_i z hz
          subst hD
          obtain ⟨b, hb, rfl⟩ := r
          obtain ⟨blk, cs, e, hb', hh, hr, _⟩ := hf.boxes k c hk
          obtain rfl : b = blk := Option.some.inj (hb.symm.trans hb')
          obtain ⟨pre, q, post, rfl, hp, hq⟩ := getAt_ok _ _ _ _ hz hr
          refine ⟨⟨b, o, none⟩, q, rfl, ih _ _ _ hq, rfl, fun j v hj => ?_⟩
          show allM E w b (o + j) = some v
          rw [allM_at hb]
          refine cell_blk hh ?_
          rw [List.append_assoc, List.getElem?_append_right (by omega), show o + j - pre.length = j by omega, List.getElem?_append_left (List.getElem?_eq_some_iff.1 hj).1]
          exact hj
        · subst hD; exact rep_mono hle _ _ _ r
      · subst hD; exact rep_mono hle _ _ _ r
    | _ => exact rep_mono hle _ _ _ r
theorem deep_agg : ∀ (n : Nat) (t : Ty) (x : t.den), (deep st.b n t x).t.isAgg = t.isAgg := by
  intro n
  cases n with
  | zero => intro t x; rfl
  | succ n =>
    intro t x
    cases t with
    | sl k t =>
      generalize hD : deep st.b (n + 1) (.sl k t) x = D
      simp only [deep] at hD
      split at hD
      · split at hD <;> (subst hD; rfl)
      · subst hD; rfl
    | ptr k o t =>
      generalize hD : deep st.b (n + 1) (.ptr k o t) x = D
      simp only [deep] at hD
      split at hD
      · split at hD <;> (subst hD; rfl)
      · subst hD; rfl
    | _ => rfl
theorem deepT_ok {X : Nat → Prop} {tmps : Array Value} (hf : FR X E st tmps w) {a : Ty} {tv : TV} {y : a.den} {v : Value} (h : deepT st a tv = some y) (r : VRep E tv.t tv.x v) : VRep (E.all w) a y v := by
  obtain ⟨cs, r, e⟩ := r
  exact castTV_ok h ⟨cs, deep_ok hf 30 _ _ _ r, by rw [e]; unfold mkV; rw [deep_agg]⟩

/-- The results' values. -/
theorem resT_ok {tmps : Array Value} (hf : FR (fun _ => True) E st tmps w) : ∀ (t : Ty) (rs : List ResultVar) (y : t.den), resT P st t rs = some y →
    ∃ vs, vals (E.all w) t y vs ∧ (rs.mapM (resV tmps)).run P w = .ok vs w
  | .unit, [], _, _ => ⟨[], rfl, by simp⟩
  | .pair a b, .tmp t :: rs, y, h => by
    simp only [resT] at h
    split at h
    · rename_i tv y2 h1 h2
      split at h
      · rename_i y1 h3
        obtain rfl := Option.some.inj h
        obtain ⟨vs, hvs, hrun⟩ := resT_ok hf b rs y2 h2
        have hv := deepT_ok hf h3 (opd_ok (a := ⟨tmps, []⟩) hf (fun _ _ => trivial) h1)
        refine ⟨_, ⟨_, vs, rfl, hv, hvs⟩, ?_⟩
        rw [List.mapM_cons, Sem.run_bind, resV, Sem.run_pure, Result.andThen_ok, Sem.run_bind, hrun]; rfl
      · cases h
    · cases h
  | .pair a b, .cell t ty :: rs, y, h => by
    simp only [resT] at h
    split at h
    · rename_i tv z h1 h2
      split at h
      · rename_i u h3
        split at h
        · rename_i y1 h4
          obtain rfl := Option.some.inj h
          obtain ⟨vs, hvs, hrun⟩ := resT_ok hf b rs z h2
          have hv := opd_ok (a := ⟨tmps, []⟩) hf (fun _ _ => trivial) h1
          obtain ⟨ad, v, hva, hl, hr⟩ := loadK_val h3 _ E tmps w _ hf hv
          have hva' : tmps.getD t undef = .pointer (some ad) := hva
          refine ⟨_, ⟨v, vs, rfl, deepT_ok hf h4 hr, hvs⟩, ?_⟩
          rw [List.mapM_cons, Sem.run_bind, resV, Sem.run_bind, hva']
          simp only [asAddr, Sem.run_pure, Result.andThen_ok, hl, Sem.run_bind, hrun]
        · cases h
      · cases h
    · cases h
  | .unit, _ :: _, _, h | .pair _ _, [], _, h | .bool, _, _, h | .int _, _, _, h | .str, _, _, h | .list _, _, _, h | .nl _, _, _, h | .opt _, _, _, h | .ep _ _ _ _, _, _, h | .sl _ _, _, _, h | .ref _, _, _, h | .ptr _ _ _, _, _, h | .fn _ _ _, _, _, h => by simp [resT] at h

theorem start_ok {τ : Nat → Option Value} {β : Nat → Option Nat} {m : Mem} : ∀ (t : Ty) (x : t.den) (vs : List Value), vals ⟨m, β, τ⟩ t x vs → (start.go t x).length = vs.length ∧ ∀ i s, (start.go t x)[i]? = some s → SlotRep ⟨m, β, τ⟩ s (vs.getD i undef)
  | .unit, _, _, h => by obtain rfl : _ = [] := h; exact ⟨rfl, fun i s hs => by simp [start.go] at hs⟩
  | .pair a b, x, _, h => by
    obtain ⟨v, vs', rfl, hv, h2⟩ := h
    obtain ⟨h3, h4⟩ := start_ok b x.2 vs' h2
    refine ⟨by simp [start.go, h3], fun i s hs => ?_⟩
    cases i with
    | zero => simp only [start.go, List.getElem?_cons_zero, Option.some.injEq] at hs; subst hs; exact hv
    | succ i => simp only [start.go, List.getElem?_cons_succ] at hs; exact h4 i s hs

/-- What a function's evaluator gives is what the function does. -/
theorem sound_fun {sp : Specs} (hsp : ∀ g s, sp g = some s → SoundX P C g s) {f : FuncId} {fn : Func} (hf : P.funcs[f]? = some fn) (hn : (fn.name == "runtime.NumGoroutine") = false) (hb : fn.body.isNone = false) (an : An) (s : Sp)
    (hp : plain s.ps = true) (hr : plain s.rs = true) (hF : ∀ n x, s.F n x = funK P sp fn an s.ps s.rs n x) : Sound P C f s := by
  refine ⟨fun args w => ?_, fun n x r h m β τ w vs hi hG hv => ?_⟩
  · unfold callFunc
    simp only [Sem.run_bind, run_program, Result.andThen_ok, hf, hn, hb, Bool.false_eq_true, if_false]
    rfl
  · rw [hF] at h
    unfold funK at h
    split at h
    · rename_i c hc
      refine calls_of_wp hf hc ?_
      have hv' : vals ⟨m, fun _ => none, fun _ => none⟩ s.ps x vs := vals_plain (E := ⟨m, β, τ⟩) (E' := ⟨m, fun _ => none, fun _ => none⟩) rfl _ _ _ hp hv
      obtain ⟨hlen, hslots⟩ := start_ok _ _ _ hv'
      have hg : GR C m w ⟨m, fun _ => none, fun _ => none⟩ (start s.ps x fn.ntmps) (vs.toArray ++ Array.replicate (fn.ntmps - vs.toArray.size) undef) w := by
        refine ⟨⟨?_, fun i q _ hq => ?_, fun i tv ht => ?_, fun i e t xs ht => ?_, fun _ _ _ hb => (nomatch hb), hi⟩, .refl _ _, fun _ _ hb => (nomatch hb), fun _ _ hb => (nomatch hb), fun _ _ => ⟨rfl, rfl⟩, hG⟩
        · simp [start, hlen]
        · have hq' : (start.go s.ps x ++ List.replicate (fn.ntmps - (start.go s.ps x).length) Slot.undef)[i]? = some q := hq
          by_cases hlt : i < vs.length
          · rw [List.getElem?_append_left (by omega)] at hq'
            have := hslots i q hq'
            rw [Array.getD_eq_getD_getElem?, Array.getElem?_append_left (by simpa using hlt)]
            rw [List.getD_eq_getElem?_getD] at this
            simpa using this
          · rw [List.getElem?_append_right (by omega)] at hq'
            have hq2 := List.getElem?_replicate .. ▸ hq'
            split at hq2
            · obtain rfl := Option.some.inj hq2
              show _ = undef
              rw [Array.getD_eq_getD_getElem?, Array.getElem?_append_right (by simpa using hlt)]
              rw [Array.getElem?_replicate]
              split <;> rfl
            · cases hq2
        · simp [start] at ht
        · simp [start] at ht
      refine codeK_ok (m0 := m) (w0 := w) (r := r) (ds := []) hsp c an _ _ _ ⟨_, []⟩ w _ h hg rfl fun e st' E' a' w' hk hg' hd' => ?_
      have fin : resT P st' s.rs fn.results.toList = some r → a'.defers = [] ∧ ∃ v, (results fn a'.tmps).run P w' = .ok v w' ∧ (∃ v_1 m', Ending.returned v = .returned v_1 ∧ Chg C m w m' w' ∧ Inv m' w' ∧ SlotRep ⟨m', β, τ⟩ (retSlot s.rs r) v_1) := fun hres => by
        obtain ⟨vs', hvs, hrun⟩ := resT_ok hg'.fr _ _ _ hres
        have hvs' : vals ⟨allM E' w', β, τ⟩ s.rs r vs' := vals_plain (E := E'.all w') (E' := ⟨allM E' w', β, τ⟩) rfl _ _ _ hr hvs
        refine ⟨hd', _, ?_, ⟨_, allM E' w', rfl, ⟨hg'.chg.os, hg'.chg.tape, hg'.chg.output, hg'.chg.drawn, hg'.chg.size, hg'.chg.heap, fun b hb => ?_⟩, allM_inv hg'.fr.inv, vals_ret _ _ _ hvs'⟩⟩
        rotate_left
        · rw [← hg'.chg.mem b hb]
          funext j
          unfold allM
          rw [if_neg (fun ⟨i, hi⟩ => by have := hg'.own i b hi; omega)]
        have hres' : results fn a'.tmps = (do
          let vs ← fn.results.mapM (resV a'.tmps)
          pure (if h : vs.size = 1 then vs[0] else .tuple vs)) := rfl
        rw [hres', Sem.run_bind, Array.mapM_eq_mapM_toList, Sem.run_map, hrun]
        rfl
      cases e with
      | norm => exact fin hk
      | exit id => cases hk
      | ret => exact fin hk
    · cases h
/-- Results, the first of which is the call's own. -/
theorem resO_ok {tmps : Array Value} (hf : FR (fun _ => True) E st tmps w) {e : TypeId} {t rs : Ty} (ht : plain t = true) {l : List ResultVar} {xs : List t.den} {z : rs.den} (h : resO P st e t rs l = some (xs, z)) :
    ∃ (E2 : Env) (v : Value) (vs' c : List Value), (l.mapM (resV tmps)).run P w = .ok (v :: vs') w ∧ E2.m = E.m ∧ (∀ i b, E2.β i = some b → E.β i = some b) ∧ w.ownsRow 0 e t.size v xs.length c ∧ reps (E2.all w) t xs c ∧ vals (E2.all w) rs z vs' ∧
      ∀ g, v.ownBlock = some g → (∃ i, E.β i = some g) ∧ ∀ j, allM E2 w g j = none := by
  unfold resO at h
  split at h
  · rename_i x r
    have run_ : ∀ (vs : List Value), (r.mapM (resV tmps)).run P w = .ok vs w → (((.tmp x : ResultVar) :: r).mapM (resV tmps)).run P w = .ok (tmps.getD x undef :: vs) w := fun vs hrun => by
      rw [List.mapM_cons, Sem.run_bind, resV, Sem.run_pure, Result.andThen_ok, Sem.run_bind, hrun]; rfl
    split at h
    · rename_i k u y hx
      split at h
      · rename_i e' u' ys hb
        split at h
        · rename_i zs z' hcast hres
          split at h
          · rename_i hc
            obtain ⟨rfl, hk⟩ := hc
            simp only [Option.some.injEq, Prod.mk.injEq] at h
            obtain ⟨rfl, rfl⟩ := h
            have hlist : (⟨.list u', ys⟩ : TV) = ⟨.list t, zs⟩ := by
              unfold castTV at hcast
              split at hcast
              · rename_i hh
                simp only [Ty.list.injEq] at hh
                subst hh
                simp only [Option.some.injEq] at hcast
                rw [hcast]
              · simp [castU] at hcast
            simp only [TV.mk.injEq, Ty.list.injEq] at hlist
            obtain ⟨rfl, hxx⟩ := hlist
            obtain rfl := eq_of_heq hxx
            obtain ⟨v, c, hτ, ho, hr, hβ, hm⟩ := hf.arrs k e' u' ys hb
            let E2 : Env := { E with β := fun i => if i = k then none else E.β i, τ := fun i => if i = k then none else E.τ i }
            have b2 : ∀ i b, (i != k) = true → E.β i = some b → E2.β i = some b := fun i b hi q => by
              show (if _ then _ else _) = _; rw [if_neg (by simpa using hi)]; exact q
            have t2 : ∀ i b, (i != k) = true → E.τ i = some b → E2.τ i = some b := fun i b hi q => by
              show (if _ then _ else _) = _; rw [if_neg (by simpa using hi)]; exact q
            have bb : ∀ i b, E2.β i = some b → i ≠ k ∧ E.β i = some b := fun i b q => by
              have q' : (if i = k then none else E.β i) = some b := q
              split at q'
              · cases q'
              · exact ⟨by assumption, q'⟩
            have mm : ∀ b j u, E.m b j = some u → E2.m b j = some u := fun _ _ _ q => q
            have at_ : ∀ i (c : Bx), ((st.off fun i => i != k).b.set k none)[i]? = some (some c) → i ≠ k ∧ ∃ o, st.b[i]? = some o ∧ offB (fun i => i != k) o = some c := fun i c hc => by
              rw [List.getElem?_set] at hc
              split at hc
              · split at hc
                · cases hc
                · cases hc
              · rename_i hne
                have hc' : (st.b.map (offB fun i => i != k))[i]? = some (some c) := hc
                rw [List.getElem?_map, Option.map_eq_some_iff] at hc'
                exact ⟨fun q => hne q.symm, hc'⟩
            have hf2 : FR (fun _ => True) E2 ⟨(st.off fun i => i != k).t, (st.off fun i => i != k).b.set k none⟩ tmps w := by
              refine ⟨by show (st.t.map _).length = _; rw [List.length_map]; exact hf.len, fun i s _ hs => ?_, fun i tv hi => ?_, fun i e2 t2' zs hi => ?_, fun i j b hi hj => hf.inj i j b (bb i b hi).2 (bb j b hj).2, hf.inv⟩
              · have hs' : (st.t.map (offS fun i => i != k))[i]? = some s := hs
                rw [List.getElem?_map, Option.map_eq_some_iff] at hs'
                obtain ⟨s0, h0, rfl⟩ := hs'
                exact offS_ok mm b2 t2 (hf.slots i s0 trivial h0)
              · obtain ⟨h1, o, ho1, ho2⟩ := at_ i _ hi
                obtain ⟨rfl, hto⟩ := offB_one ho2
                obtain ⟨blk, cs, e3, q1, q2, q3, q4⟩ := hf.boxes i tv ho1
                exact ⟨blk, cs, e3, b2 i blk (by simpa using h1) q1, q2, rep_on mm b2 t2 _ _ _ hto q3, q4⟩
              · obtain ⟨h1, o, ho1, ho2⟩ := at_ i _ hi
                obtain ⟨rfl, hto⟩ := offB_arr ho2
                obtain ⟨v2, l2, q1, q2, q3, q4, q5⟩ := hf.arrs i e2 t2' zs ho1
                exact ⟨v2, l2, t2 i v2 (by simpa using h1) q1, q2, reps_on mm b2 t2 hto _ _ q3, by show (if _ then _ else _) = _; rw [if_neg h1]; exact q4, q5⟩
            obtain ⟨vs', hvs, hrun⟩ := resT_ok hf2 rs r z' hres
            have hv : tmps.getD x undef = v := by
              obtain ⟨A, n, cap, q1, q2⟩ := vrep_sl (E := E) (k := k) (t := u) (x := y) (hf.slots x _ trivial hx)
              rw [q1]; exact Option.some.inj (q2.symm.trans hτ)
            refine ⟨E2, v, vs', c, by rw [run_ vs' hrun, hv], rfl, fun i b q => (bb i b q).2, ho, ?_, hvs, fun g hg => ⟨⟨k, hβ.trans hg⟩, fun j => ?_⟩⟩
            · exact reps_on (p := fun _ => false) (allM_le hf2.inv) (fun _ _ q => by cases q) (fun _ _ q => by cases q) (plain_on u' ht) _ _ hr
            · unfold allM
              rw [if_neg (fun ⟨i, hi⟩ => (bb i g hi).1 (hf.inj i k g (bb i g hi).2 (hβ.trans hg)))]
              exact hm g j hg
          · cases h
        · cases h
      · cases h
    · rename_i u y hx
      split at h
      · rename_i z' hres
        simp only [Option.some.injEq, Prod.mk.injEq] at h
        obtain ⟨rfl, rfl⟩ := h
        obtain ⟨vs', hvs, hrun⟩ := resT_ok hf rs r z' hres
        have hv : tmps.getD x undef = .slice none 0 0 := vrep_nl (E := E) (t := u) (x := y) (hf.slots x _ trivial hx)
        exact ⟨E, .slice none 0 0, vs', [], by rw [run_ vs' hrun, hv], rfl, fun _ _ q => q, World.ownsRow_nil w 0 e t.size, rfl, hvs, fun g hg => by cases hg⟩
      · cases h
    · cases h
  · cases h

/-- What a function's evaluator gives is what the function does: the first result is the caller's own. -/
theorem sound_funO {sp : Specs} (hsp : ∀ g s, sp g = some s → SoundX P C g s) {f : FuncId} {fn : Func} (hf : P.funcs[f]? = some fn) (hn : (fn.name == "runtime.NumGoroutine") = false) (hb : fn.body.isNone = false) (an : An) (s : SpO)
    (hp : plain s.ps = true) (ht : plain s.t = true) (hr : plain s.rs = true) (hF : ∀ n x, codeK P sp n (bodyOf fn) an (start s.ps x fn.ntmps) (kFinO P s.e s.t s.rs fn) = s.F n x) : SoundO P C f s := by
  refine ⟨fun args w => ?_, fun n x r h m β τ w vs hi hG hv => ?_⟩
  · unfold callFunc
    simp only [Sem.run_bind, run_program, Result.andThen_ok, hf, hn, hb, Bool.false_eq_true, if_false]
    rfl
  · rw [← hF] at h
    obtain ⟨c, hc⟩ : ∃ c, fn.body = some c := by
      cases hq : fn.body with
      | none => rw [hq] at hb; cases hb
      | some c => exact ⟨c, rfl⟩
    have hbody : bodyOf fn = c := by unfold bodyOf; rw [hc]
    rw [hbody] at h
    refine calls_of_wp hf hc ?_
    have hv' : vals ⟨m, fun _ => none, fun _ => none⟩ s.ps x vs := vals_plain (E := ⟨m, β, τ⟩) (E' := ⟨m, fun _ => none, fun _ => none⟩) rfl _ _ _ hp hv
    obtain ⟨hlen, hslots⟩ := start_ok _ _ _ hv'
    have hg : GR C m w ⟨m, fun _ => none, fun _ => none⟩ (start s.ps x fn.ntmps) (vs.toArray ++ Array.replicate (fn.ntmps - vs.toArray.size) undef) w := by
      refine ⟨⟨?_, fun i q _ hq => ?_, fun i tv ht => ?_, fun i e t xs ht => ?_, fun _ _ _ hb => (nomatch hb), hi⟩, .refl _ _, fun _ _ hb => (nomatch hb), fun _ _ hb => (nomatch hb), fun _ _ => ⟨rfl, rfl⟩, hG⟩
      · simp [start, hlen]
      · have hq' : (start.go s.ps x ++ List.replicate (fn.ntmps - (start.go s.ps x).length) Slot.undef)[i]? = some q := hq
        by_cases hlt : i < vs.length
        · rw [List.getElem?_append_left (by omega)] at hq'
          have := hslots i q hq'
          rw [Array.getD_eq_getD_getElem?, Array.getElem?_append_left (by simpa using hlt)]
          rw [List.getD_eq_getElem?_getD] at this
          simpa using this
        · rw [List.getElem?_append_right (by omega)] at hq'
          have hq2 := List.getElem?_replicate .. ▸ hq'
          split at hq2
          · obtain rfl := Option.some.inj hq2
            show _ = undef
            rw [Array.getD_eq_getD_getElem?, Array.getElem?_append_right (by simpa using hlt)]
            rw [Array.getElem?_replicate]
            split <;> rfl
          · cases hq2
      · simp [start] at ht
      · simp [start] at ht
    refine codeK_ok (m0 := m) (w0 := w) (r := r) (ds := []) hsp c an _ _ _ ⟨_, []⟩ w _ h hg rfl fun e st' E' a' w' hk hg' hd' => ?_
    have fin : resO P st' s.e s.t s.rs fn.results.toList = some r → a'.defers = [] ∧ ∃ v, (results fn a'.tmps).run P w' = .ok v w' ∧ (∃ v1 vs' l m', Ending.returned v = .returned (retV (v1 :: vs')) ∧ Chg C m w m' w' ∧ Inv m' w' ∧ w'.ownsRow 0 s.e s.t.size v1 r.1.length l ∧ reps ⟨m', β, τ⟩ s.t r.1 l ∧ vals ⟨m', β, τ⟩ s.rs r.2 vs' ∧ ∀ g, v1.ownBlock = some g → w.heap.size ≤ g ∧ ∀ j, m' g j = none) := fun hres => by
      obtain ⟨E2, v, vs', l, hrun, hm2, hb2, ho, hrp, hvs, hown⟩ := resO_ok hg'.fr ht hres
      have hvs' : vals ⟨allM E2 w', β, τ⟩ s.rs r.2 vs' := vals_plain (E := E2.all w') (E' := ⟨allM E2 w', β, τ⟩) rfl _ _ _ hr hvs
      have hrp' : reps ⟨allM E2 w', β, τ⟩ s.t r.1 l := reps_on (p := fun _ => false) (E := E2.all w') (E' := ⟨allM E2 w', β, τ⟩) (fun b j v q => q) (fun _ _ q => by cases q) (fun _ _ q => by cases q) (plain_on s.t ht) _ _ hrp
      have hi2 : Inv E2.m w' := by rw [hm2]; exact hg'.fr.inv
      refine ⟨hd', _, ?_, ⟨v, vs', l, allM E2 w', rfl, ⟨hg'.chg.os, hg'.chg.tape, hg'.chg.output, hg'.chg.drawn, hg'.chg.size, hg'.chg.heap, fun b hb => ?_⟩, allM_inv hi2, ho, hrp', hvs', fun g hg => ?_⟩⟩
      rotate_left
      · rw [← hg'.chg.mem b hb]
        funext j
        unfold allM
        rw [if_neg (fun ⟨i, hi⟩ => by have := hg'.own i b (hb2 i b hi); omega), hm2]
      · obtain ⟨⟨i, hi⟩, h2⟩ := hown g hg
        exact ⟨hg'.own i g hi, h2⟩
      have hres' : results fn a'.tmps = (do
        let vs ← fn.results.mapM (resV a'.tmps)
        pure (if h : vs.size = 1 then vs[0] else .tuple vs)) := rfl
      rw [hres', Sem.run_bind, Array.mapM_eq_mapM_toList, Sem.run_map, hrun]
      rfl
    cases e with
    | norm => exact fin hk
    | exit id => cases hk
    | ret => exact fin hk
end
end Go.Proofs.YtadamegddcadcaaGreatDoorPi

namespace Go.Proofs.YtadamegddcadcaaGreatDoorPi
open Go

theorem codeK_R {R : Type} {P : Program} {sp : Specs} {n : Nat} : ∀ (c : Code) (an : An) (st : St) (K : Ex → St → Option R), codeK P sp n c an st K = codeR (codeK P sp n) P sp n c an st K := by
  intro c
  induction c with
  | skip => intro an st K; rfl
  | region id ops draw => intro an st K; cases draw <;> rfl
  | seq x y ihx ihy =>
    intro an st K
    have h : codeK P sp n (.seq x y) an st K = codeK P sp n x an.left st (kSeq (fun st' => codeK P sp n y an.right st' K) an K) := rfl
    rw [h, ihx]
    cases an with
    | k l nb p q => rfl
    | _ =>
      show codeR _ P sp n x _ st _ = codeR _ P sp n x _ st _
      congr 1
      funext e st'
      cases e <;> first | exact ihy _ _ _ | rfl
  | cond c x y ihx ihy =>
    intro an st K
    simp only [codeK, codeR, ihx, ihy]
  | block id x ih =>
    intro an st K
    have h : codeK P sp n (.block id x) an st K = codeK P sp n x an.left st (kBlk id K) := rfl
    rw [h, ih]
    rfl
  | loop x ih =>
    intro an st K
    have h : codeK P sp n (.loop x) an st K = rounds (fun rec st => codeK P sp n x an.left st (kSeq rec an K)) n (st.keepA an) := rfl
    rw [h]
    have h2 : (fun (rec : St → Option R) st => codeK P sp n x an.left st (kSeq rec an K)) = fun rec st => codeR (codeK P sp n) P sp n x an.left st (kSeq rec an K) := by
      funext rec st; exact ih _ _ _
    rw [h2]
    rfl
  | exit id => intro an st K; rfl
  | label l => intro an st K; rfl
  | ret => intro an st K; rfl
  | _ => intro an st K; rfl

theorem rounds_mk {R σ : Type} (mk : σ → St) {f : (St → Option R) → St → Option R} {g : (σ → Option R) → σ → Option R} (h : ∀ rec x, f rec (mk x) = g (fun y => rec (mk y)) x) : ∀ n x, rounds f n (mk x) = rounds g n x
  | 0, _ => rfl
  | n + 1, x => by
    show f (rounds f n) (mk x) = g (rounds g n) x
    rw [h]
    congr 1
    funext y
    exact rounds_mk mk h n y

def look : List (Nat × SpX) → Specs
  | [], _ => none
  | (g, s) :: l, i => if i = g then some s else look l i
theorem look_nil {P : Program} {C : Ctx} : ∀ g s, look [] g = some s → SoundX P C g s := fun _ _ h => by cases h
theorem look_cons {P : Program} {C : Ctx} {g0 : Nat} {s0 : SpX} {l : List (Nat × SpX)} (h0 : SoundX P C g0 s0) (hl : ∀ g s, look l g = some s → SoundX P C g s) : ∀ g s, look ((g0, s0) :: l) g = some s → SoundX P C g s := fun g s h => by
  simp only [look] at h
  split at h
  · rename_i e; subst e; obtain rfl := Option.some.inj h; exact h0
  · exact hl g s h

/-- A function, by its body's equation. -/
theorem sound_of {P : Program} {C : Ctx} {sp : Specs} (hsp : ∀ g s, sp g = some s → SoundX P C g s) {f : FuncId} {fn : Func} (hf : P.funcs[f]? = some fn) (hn : (fn.name == "runtime.NumGoroutine") = false) (hb : fn.body.isNone = false) (an : An) (s : Sp)
    (hp : plain s.ps = true) (hr : plain s.rs = true) (hF : ∀ n x, codeK P sp n (bodyOf fn) an (start s.ps x fn.ntmps) (kFin P s.rs fn) = s.F n x) : Sound P C f s :=
  sound_fun hsp hf hn hb an s hp hr fun n x => by
    rw [← hF n x]
    unfold funK bodyOf
    cases h : fn.body with
    | none => rw [h] at hb; cases hb
    | some c => rfl
/-- Slots that hold nothing, ahead of others. -/
def jk : Nat → List Slot → List Slot
  | 0, l => l
  | n + 1, l => .junk :: jk n l
abbrev RC (R : Type) := Code → An → St → (Ex → St → R) → R
end Go.Proofs.YtadamegddcadcaaGreatDoorPi

namespace Go.Proofs.YtadamegddcadcaaGreatDoorPi
open Go Go.ChangeShapes Go.WideShapes
section
variable {H : Type} {enc : TypeId × Value → H} {P : Program} {w : World} {base : Nat} {sp : Nat → Bool} {held : Bool}

/-! arguments, as they come -/
def inFs (P : Program) (chk : TypeId → Ty → Bool) : List Field → Ty → Nat → Bool
  | [], .unit, _ => true
  | f :: fs, .pair a b, off => f.offset == off && P.cellsOf f.type == a.size && chk f.type a && inFs P chk fs b (off + a.size)
  | _, _, _ => false
def inTy (P : Program) : Nat → TypeId → Ty → Bool
  | 0, _, _ => false
  | n + 1, t, T => match P.underlying t, T with
    | some .bool, .bool => true
    | some (.int k), .int k' => k == k'
    | some .string, .str => true
    | some (.slice e), .list U => P.cellsOf e == U.size && decide (0 < U.size) && inTy P n e U
    | some (.struct fs), T => T.isAgg && P.cellsOf t == T.size && inFs P (inTy P n) fs.toList T 0
    | _, _ => false

def good : (t : Ty) → t.den → Prop
  | .int k, n => (Lit.int k n).wf = true
  | .str, s => s.size ≤ maxLen
  | .pair a b, x => good a x.1 ∧ good b x.2
  | .list t, xs => xs.length ≤ maxLen ∧ ∀ x ∈ xs, good t x
  | _, _ => True

def mm (w : World) : Mem := fun b j => w.cell? ⟨b, j, none⟩
abbrev e0 (w : World) : Env := ⟨mm w, fun _ => none, fun _ => none⟩

theorem mapM_at {α β : Type} {f : α → Option β} : ∀ {l : List α} {r : List β}, l.mapM f = some r → ∀ (i : Nat) x, l[i]? = some x → ∃ y, r[i]? = some y ∧ f x = some y
  | [], r, h, i, x, hx => by simp at hx
  | a :: l, r, h, i, x, hx => by
    rw [List.mapM_cons] at h
    cases ha : f a with
    | none => rw [ha] at h; cases h
    | some b =>
      cases hl : l.mapM f with
      | none => rw [ha, hl] at h; cases h
      | some bs =>
        rw [ha, hl] at h
        obtain rfl : b :: bs = r := Option.some.inj h
        cases i with
        | zero => obtain rfl : a = x := Option.some.inj hx; exact ⟨b, rfl, ha⟩
        | succ i => exact mapM_at hl i x hx
theorem mapM_len {α β : Type} {f : α → Option β} : ∀ {l : List α} {r : List β}, l.mapM f = some r → r.length = l.length
  | [], r, h => by rw [List.mapM_nil] at h; obtain rfl : [] = r := Option.some.inj h; rfl
  | a :: l, r, h => by
    rw [List.mapM_cons] at h
    cases ha : f a with
    | none => rw [ha] at h; cases h
    | some b =>
      cases hl : l.mapM f with
      | none => rw [ha, hl] at h; cases h
      | some bs =>
        rw [ha, hl] at h
        obtain rfl : b :: bs = r := Option.some.inj h
        simp [mapM_len hl]
theorem cells_at {a : Addr} {n : Nat} {cs : List Value} (h : w.cells? base a n = some cs) : cs.length = n ∧ ∀ j v, cs[j]? = some v → w.cell? (a.add j) = some v := by
  unfold World.cells? at h
  split at h
  · refine ⟨by rw [mapM_len h, List.length_range], fun j v hj => ?_⟩
    have hl := mapM_len h
    have hlt := (List.getElem?_eq_some_iff.1 hj).1
    rw [List.length_range] at hl
    obtain ⟨y, hy, hf⟩ := mapM_at h j j (by rw [List.getElem?_range (by omega)])
    rw [hj] at hy
    obtain rfl := Option.some.inj hy
    exact hf
  · cases h
theorem spot_none {a : Addr} {v : Value} (h : w.cell? a = some v) : a.spot = none := by
  unfold World.cell? at h
  split at h
  · split at h
    · cases h
    · rename_i hs; cases hh : a.spot with
      | none => rfl
      | some x => rw [hh] at hs; simp at hs
  · cases h
theorem add_at {a : Addr} (h : a.spot = none) (n : Nat) : a.add n = ⟨a.block, a.off + n, none⟩ := by
  unfold Addr.add; split
  · rename_i hz; obtain ⟨b, o, s⟩ := a; simp only at h; subst h; simp [hz]
  · rfl
theorem choose_list {α : Type} {Q : Nat → α → Prop} : ∀ (n : Nat), (∀ i, i < n → ∃ x, Q i x) → ∃ xs : List α, xs.length = n ∧ ∀ (i : Nat) x, xs[i]? = some x → Q i x
  | 0, _ => ⟨[], rfl, fun i x h => by simp at h⟩
  | n + 1, h => by
    obtain ⟨xs, hl, hx⟩ := choose_list n (fun i hi => h i (by omega))
    obtain ⟨y, hy⟩ := h n (by omega)
    refine ⟨xs ++ [y], by simp [hl], fun i x hi => ?_⟩
    by_cases hlt : i < n
    · rw [List.getElem?_append_left (by omega)] at hi; exact hx i x hi
    · have hi' := (List.getElem?_eq_some_iff.1 hi).1
      rw [List.length_append, hl] at hi'
      have : i = n := by simp at hi'; omega
      subst this
      rw [List.getElem?_append_right (by omega), hl, Nat.sub_self] at hi
      obtain rfl : y = x := Option.some.inj hi
      exact hy

theorem open_fs {chk : TypeId → Ty → Bool} {r : TypeId → List Value → Option (DataW H × List MemPlace)} {cs : List Value}
    (hr : ∀ t T c y, chk t T = true → r t c = some y → ∃ x : T.den, rep (e0 w) T x c ∧ good T x) : ∀ (fs : List Field) (T : Ty) (off : Nat), inFs P chk fs T off = true → cs.length = off + T.size →
      (∀ (i : Nat) (f : Field), fs[i]? = some f → ∃ y, r f.type ((cs.drop f.offset).take (P.cellsOf f.type)) = some y) → ∃ x : T.den, rep (e0 w) T x (cs.drop off) ∧ good T x
  | [], .unit, off, _, hl, _ => ⟨(), by show cs.drop off = []; exact List.drop_eq_nil_of_le (by simp [Ty.size] at hl; omega), trivial⟩
  | f :: fs, .pair a b, off, h, hl, hf => by
    simp only [inFs, Bool.and_eq_true, beq_iff_eq] at h
    obtain ⟨⟨⟨h1, h2⟩, h3⟩, h4⟩ := h
    simp only [Ty.size] at hl
    obtain ⟨y, hy⟩ := hf 0 f rfl
    obtain ⟨x1, r1, g1⟩ := hr _ _ _ _ h3 hy
    obtain ⟨x2, r2, g2⟩ := open_fs hr fs b (off + a.size) h4 (by omega) (fun i f' hi => hf (i + 1) f' hi)
    refine ⟨(x1, x2), ⟨(cs.drop off).take a.size, cs.drop (off + a.size), ?_, ?_, r2⟩, g1, g2⟩
    · rw [← List.drop_drop, List.take_append_drop]
    · rw [h1, h2] at r1; exact r1
  | [], .bool, _, h, _, _ | [], .int _, _, h, _, _ | [], .str, _, h, _, _ | [], .pair _ _, _, h, _, _ | [], .list _, _, h, _, _ | [], .nl _, _, h, _, _ | [], .opt _, _, h, _, _ | [], .ep _ _ _ _, _, h, _, _ | [], .sl _ _, _, h, _, _ | [], .ref _, _, h, _, _ | [], .ptr _ _ _, _, h, _, _ | [], .fn _ _ _, _, h, _, _ => by simp [inFs] at h
  | _ :: _, .unit, _, h, _, _ | _ :: _, .bool, _, h, _, _ | _ :: _, .int _, _, h, _, _ | _ :: _, .str, _, h, _, _ | _ :: _, .list _, _, h, _, _ | _ :: _, .nl _, _, h, _, _ | _ :: _, .opt _, _, h, _, _ | _ :: _, .ep _ _ _ _, _, h, _, _ | _ :: _, .sl _ _, _, h, _, _ | _ :: _, .ref _, _, h, _, _ | _ :: _, .ptr _ _ _, _, h, _, _ | _ :: _, .fn _ _ _, _, h, _, _ => by simp [inFs] at h

theorem open_cells : ∀ (n : Nat) (t : TypeId) (T : Ty), inTy P n t T = true → ∀ (fuel : Nat) (cs : List Value) (y : DataW H × List MemPlace), DataW.trod enc P w base sp held fuel t cs = some y → ∃ x : T.den, rep (e0 w) T x cs ∧ good T x
  | 0, _, _, h, _, _, _, _ => by simp [inTy] at h
  | n + 1, t, T, h, fuel, cs, y, hy => by
    simp only [inTy] at h
    split at h
    · rename_i hu
      obtain ⟨b, rfl, _⟩ := DataW.trod_bool hu hy
      exact ⟨b, rfl, trivial⟩
    · rename_i k k' hu
      obtain rfl := beq_iff_eq.1 h
      obtain ⟨m, rfl, _, hw⟩ := DataW.trod_int hu hy
      exact ⟨m, rfl, hw⟩
    · rename_i hu
      obtain ⟨s, rfl, _, hs⟩ := DataW.trod_string hu hy
      exact ⟨s, rfl, hs⟩
    · rename_i e U hu
      simp only [Bool.and_eq_true, beq_iff_eq, decide_eq_true_eq] at h
      obtain ⟨⟨hc, hpos⟩, hin⟩ := h
      rcases DataW.trod_slice hu hy with ⟨rfl, _⟩ | ⟨a, len, cap, elems, rest, m, _, rfl, _, _, hlc, hcap, hel, hat, _⟩
      · exact ⟨[], ⟨none, 0, rfl, fun _ => rfl, Nat.le_refl _, fun i x hx => by simp at hx⟩, Nat.zero_le _, fun x hx => by simp at hx⟩
      · have one : ∀ i, i < len → ∃ x : U.den, ∃ c, a.spot = none ∧ rep (e0 w) U x c ∧ Row (mm w) ⟨a.block, a.off + i * U.size, none⟩ c ∧ good U x := by
          intro i hi
          have sp0 : a.spot = none := by
            have h0 := hat 0 (by omega)
            rw [List.getElem?_eq_getElem (by omega), Option.bind_eq_some_iff] at h0
            obtain ⟨c0, hc0, _⟩ := h0
            obtain ⟨hl0, hc0'⟩ := cells_at hc0
            have hlt : 0 < c0.length := by omega
            have := hc0' 0 _ (List.getElem?_eq_getElem hlt)
            rw [Nat.zero_mul] at this
            exact spot_none this
          have hi' := hat i hi
          rw [List.getElem?_eq_getElem (by omega), Option.bind_eq_some_iff] at hi'
          obtain ⟨c, hcc, htr⟩ := hi'
          obtain ⟨x, hr, hg⟩ := open_cells n e U hin m c _ htr
          obtain ⟨_, hcat⟩ := cells_at hcc
          refine ⟨x, c, sp0, hr, ⟨rfl, fun j v hj => ?_⟩, hg⟩
          have := hcat j v hj
          rw [hc, add_at sp0, add_at rfl] at this
          exact this
        obtain ⟨xs, hl, hx⟩ := choose_list len one
        refine ⟨xs, ⟨some a, cap, by rw [hl], fun q => (nomatch q), by rw [hl]; exact hlc, fun i x hi => ?_⟩, by rw [hl]; exact Nat.le_trans hlc hcap, fun x hx' => ?_⟩
        · obtain ⟨c, s, r, rw', _⟩ := hx i x hi
          exact ⟨a, c, rfl, s, r, rw'⟩
        · obtain ⟨i, hi⟩ := List.getElem?_of_mem hx'
          obtain ⟨_, _, _, _, g⟩ := hx i x hi
          exact g
    · rename_i fs hu
      simp only [Bool.and_eq_true, beq_iff_eq] at h
      obtain ⟨⟨_, hcz⟩, hfs⟩ := h
      obtain ⟨xs, m, _, _, hl, hxl, hat⟩ := DataW.trod_struct hu hy
      have := open_fs (P := P) (w := w) (cs := cs) (r := DataW.trod enc P w base sp held m) (fun t' T' c y' h1 h2 => open_cells n t' T' h1 m c y' h2) fs.toList _ 0 hfs (by omega) (fun i f hi => by
        have hi' : fs[i]? = some f := by simpa using hi
        have h2 := hat i f hi'
        have hlt : i < xs.length := by rw [hxl]; exact (Array.getElem?_eq_some_iff.1 hi').1
        exact ⟨xs[i], by rw [h2, List.getElem?_eq_getElem hlt]⟩)
      exact this
    · cases h

theorem open_val {n : Nat} {t : TypeId} {T : Ty} {r : Reach} {b0 : Nat} {v : Value} {d : DataW H} {ps : List MemPlace} (h : inTy P n t T = true) (hok : Value.okWide P w r b0 t v) (hd : DataW.Trod enc P w base sp held t v d ps) :
    ∃ x : T.den, VRep (e0 w) T x v ∧ good T x := by
  obtain ⟨fuel, hf⟩ := hd
  obtain ⟨x, hr, hg⟩ := open_cells n t T h fuel _ _ hf
  refine ⟨x, ⟨_, hr, ?_⟩, hg⟩
  cases n with
  | zero => simp [inTy] at h
  | succ n =>
    simp only [inTy] at h
    split at h
    · rename_i hu; obtain ⟨b, rfl⟩ := okWide_bool hu hok; rfl
    · rename_i hu; obtain ⟨b, rfl⟩ := okWide_int hu hok; rfl
    · rename_i hu; obtain ⟨b, rfl⟩ := okWide_string hu hok; rfl
    · rename_i hu; obtain ⟨a, l, c, rfl⟩ := okWide_slice hu hok; rfl
    · rename_i fs hu
      simp only [Bool.and_eq_true] at h
      unfold Value.okWide at hok
      rw [hu] at hok
      obtain ⟨cs, rfl, _⟩ := hok
      unfold mkV; rw [if_pos h.1.1]; simp [Value.cells]
    · cases h

def inAll (P : Program) (n : Nat) : List TypeId → Ty → Bool
  | [], .unit => true
  | t :: ts, .pair a b => inTy P n t a && inAll P n ts b
  | _, _ => false
def goods : (t : Ty) → t.den → Prop
  | .pair a b, x => good a x.1 ∧ goods b x.2
  | _, _ => True
theorem open_all {n : Nat} {r : Reach} {b0 : Nat} : ∀ (ts : List TypeId) (T : Ty) (vs : List Value) (ds : List (DataW H)) (ps : List MemPlace), inAll P n ts T = true → (∀ (j : Nat) t v, ts[j]? = some t → vs[j]? = some v → Value.okWide P w r b0 t v) →
    DataW.TrodAll enc P w base sp held ts vs ds ps → ∃ x : T.den, vals (e0 w) T x vs ∧ goods T x ∧ ds.length = ts.length
  | [], .unit, [], [], _, _, _, _ => ⟨(), rfl, trivial, rfl⟩
  | t :: ts, .pair a b, v :: vs, d :: ds, _, h, hok, ⟨p, q, h1, h2, _⟩ => by
    simp only [inAll, Bool.and_eq_true] at h
    obtain ⟨x, hx, gx⟩ := open_val h.1 (hok 0 t v rfl rfl) h1
    obtain ⟨y, hy, gy, hl⟩ := open_all ts b vs ds q h.2 (fun j t' v' ht hv => hok (j + 1) t' v' ht hv) h2
    exact ⟨(x, y), ⟨v, vs, rfl, hx, hy⟩, ⟨gx, gy⟩, by simp [hl]⟩
  | [], .unit, _ :: _, _, _, _, _, h | [], .unit, [], _ :: _, _, _, _, h => by simp [DataW.TrodAll] at h
  | _ :: _, .pair _ _, [], _, _, _, _, h | _ :: _, .pair _ _, _ :: _, [], _, _, _, h => by simp [DataW.TrodAll] at h
   | [], .bool, _, _, _, h, _, _ | [], .int _, _, _, _, h, _, _ | [], .str, _, _, _, h, _, _ | [], .pair _ _, _, _, _, h, _, _ | [], .list _, _, _, _, h, _, _ | [], .nl _, _, _, _, h, _, _ | [], .opt _, _, _, _, h, _, _ | [], .ep _ _ _ _, _, _, _, h, _, _ | [], .sl _ _, _, _, _, h, _, _ | [], .ref _, _, _, _, h, _, _ | [], .ptr _ _ _, _, _, _, h, _, _ | [], .fn _ _ _, _, _, _, h, _, _ => by simp [inAll] at h
  | _ :: _, .unit, _, _, _, h, _, _ | _ :: _, .bool, _, _, _, h, _, _ | _ :: _, .int _, _, _, _, h, _, _ | _ :: _, .str, _, _, _, h, _, _ | _ :: _, .list _, _, _, _, h, _, _ | _ :: _, .sl _ _, _, _, _, h, _, _ | _ :: _, .ref _, _, _, _, h, _, _ | _ :: _, .ptr _ _ _, _, _, _, h, _, _ | _ :: _, .fn _ _ _, _, _, _, h, _, _ => by simp [inAll] at h

/-- Behind a call that changes nothing of old the arguments read as they did. -/
theorem close_all {w' : World} (hk : Kids P (· < P.types.size)) (hz : ((List.range P.types.size).all fun t => match P.underlying t with | some (.slice e) => decide (0 < P.cellsOf e) | _ => true) = true)
    (hb : ∀ b, b < w.heap.size → w'.heap[b]? = w.heap[b]?) {ts : List TypeId} {vs : List Value} {ds : List (DataW H)} {ps : List MemPlace} (hts : ∀ t ∈ ts, t < P.types.size) (h : DataW.TrodAll enc P w 0 (fun _ => true) true ts vs ds ps) :
    DataW.TrodAll enc P w' 0 (fun b => decide (b < w.heap.size)) true ts vs ds ps := by
  have hlt := h.lt
  have h1 := DataW.TrodAll.respare (spare' := fun b => decide (b < w.heap.size)) hk (slices_full_of P hz) hts h (fun p hp => by simpa using hlt p hp)
  have same : ∀ p : MemPlace, p.block < w.heap.size → w.sameAt w' p := fun p hp => by
    cases p with
    | cell b off => show w'.cell? _ = w.cell? _; unfold World.cell?; rw [hb b hp]
    | map b => exact hb b hp
  clear h hts
  revert hlt
  induction ts generalizing vs ds ps with
  | nil => intro _; cases vs <;> cases ds <;> first | exact h1 | simp [DataW.TrodAll] at h1
  | cons t ts ih =>
    intro hlt
    cases vs with
    | nil => simp [DataW.TrodAll] at h1
    | cons v vs => cases ds with
      | nil => simp [DataW.TrodAll] at h1
      | cons d ds =>
        obtain ⟨p, q, ⟨fuel, hf⟩, h3, rfl⟩ := h1
        exact ⟨p, q, ⟨fuel, DataW.trod_carry fuel t _ _ hf (fun x hx => same x (hlt x (List.mem_append_left _ hx)))⟩, ih h3 (fun x hx => hlt x (List.mem_append_right _ hx)), rfl⟩
end
/-! the smallest arguments -/
def zcells : Ty → List Value
  | .bool => [.bool false] | .int k => [.int k 0] | .str => [.string ⟨#[]⟩] | .pair a b => zcells a ++ zcells b | .list _ => [.slice none 0 0] | _ => []
def zvals : Ty → List Value
  | .pair a b => mkV a (zcells a) :: zvals b
  | _ => []
theorem list1 {α : Type} {l : List α} (h : l.length = 1) : ∃ a, l = [a] := by match l, h with | [a], _ => exact ⟨a, rfl⟩
theorem list2 {α : Type} {l : List α} (h : l.length = 2) : ∃ a b, l = [a, b] := by match l, h with | [a, b], _ => exact ⟨a, b, rfl⟩
theorem list3 {α : Type} {l : List α} (h : l.length = 3) : ∃ a b c, l = [a, b, c] := by match l, h with | [a, b, c], _ => exact ⟨a, b, c, rfl⟩
theorem list4 {α : Type} {l : List α} (h : l.length = 4) : ∃ a b c d, l = [a, b, c, d] := by match l, h with | [a, b, c, d], _ => exact ⟨a, b, c, d, rfl⟩
theorem list5 {α : Type} {l : List α} (h : l.length = 5) : ∃ a b c d e, l = [a, b, c, d, e] := by match l, h with | [a, b, c, d, e], _ => exact ⟨a, b, c, d, e, rfl⟩
theorem list6 {α : Type} {l : List α} (h : l.length = 6) : ∃ a b c d e f, l = [a, b, c, d, e, f] := by match l, h with | [a, b, c, d, e, f], _ => exact ⟨a, b, c, d, e, f, rfl⟩
end Go.Proofs.YtadamegddcadcaaGreatDoorPi
