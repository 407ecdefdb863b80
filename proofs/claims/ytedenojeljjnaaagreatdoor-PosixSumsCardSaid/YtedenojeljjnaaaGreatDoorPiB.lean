import Derived.Test.YtedenojeljjnaaaGreatDoorPiA
set_option linter.unusedVariables false
namespace Go.Proofs.YtedenojeljjnaaaGreatDoorPi
open Go
section
variable {R : Type} {P : Program}

theorem tupAt_ok {E : Env} : ∀ (t : Ty) (x : t.den) (i : Nat) (tv : TV) (vs : List Value), tupAt t x i = some tv → vals E t x vs → ∃ v, vs[i]? = some v ∧ VRep E tv.t tv.x v
  | .pair a b, x, 0, tv, vs, h, hv => by
    obtain ⟨v, vs', rfl, h1, h2⟩ := hv
    obtain rfl := Option.some.inj h
    exact ⟨v, rfl, h1⟩
  | .pair a b, x, i + 1, tv, vs, h, hv => by
    obtain ⟨v, vs', rfl, h1, h2⟩ := hv
    obtain ⟨v', e, r⟩ := tupAt_ok b x.2 i tv vs' h h2
    exact ⟨v', by simpa using e, r⟩
  | .unit, _, _, _, _, h, _ | .bool, _, _, _, _, h, _ | .int _, _, _, _, _, h, _ | .str, _, _, _, _, h, _ | .list _, _, _, _, _, h, _ | .nl _, _, _, _, _, h, _ | .opt _, _, _, _, _, h, _ | .ep _ _ _ _, _, _, _, _, h, _ | .sl _ _, _, _, _, _, h, _ | .ref _, _, _, _, _, h, _ | .ptr _ _ _, _, _, _, _, h, _ | .fn _ _ _, _, _, _, _, h, _ => by simp [tupAt] at h

theorem reads_mem {o : Oper} {x : Operand} (hx : x ∈ o.op.operands) : ∀ u, x = .tmp u → u ∈ reads o := fun u e => by
  subst e
  exact List.mem_filterMap.2 ⟨.tmp u, by simpa using hx, rfl⟩

theorem bd_ok {a : Act} {v : Option Int} {o : Option Operand} (h : (o = none ∧ v = none) ∨ ∃ x k n, o = some x ∧ v = some n ∧ a.eval x = .int k n) : Bd v (o.map a.eval) := by
  rcases h with ⟨rfl, rfl⟩ | ⟨x, k, n, rfl, rfl, e⟩
  · exact .inl ⟨rfl, rfl⟩
  · exact .inr ⟨k, n, rfl, by rw [Option.map_some, e]⟩

theorem tvsOf_ok {st : St} {X : Nat → Prop} {E : Env} {a : Act} {w : World} (hf : FR X E st a.tmps w) : ∀ (xs : List Operand) (tv : TV), (∀ x ∈ xs, ∀ u, x = .tmp u → X u) → tvsOf st xs = some tv → ∃ bs, rep E tv.t tv.x bs ∧ unflat tv.t bs = xs.map a.eval
  | [], _, _, h => by simp only [tvsOf, Option.some.injEq] at h; subst h; exact ⟨[], rfl, rfl⟩
  | x :: xs, tv, hX, h => by
    simp only [tvsOf] at h
    split at h
    · rename_i a1 b1 h1 h2
      obtain rfl := Option.some.inj h
      obtain ⟨cs, r1, e1⟩ := opd_ok hf (hX x (by simp)) h1
      obtain ⟨bs, r2, e2⟩ := tvsOf_ok hf xs b1 (fun z hz => hX z (by simp [hz])) h2
      refine ⟨cs ++ bs, ⟨cs, bs, rfl, r1, r2⟩, ?_⟩
      have hl := rep_length _ _ _ r1
      show mkV a1.t ((cs ++ bs).take a1.t.size) :: unflat b1.t ((cs ++ bs).drop a1.t.size) = _
      rw [← hl, List.take_left, List.drop_left, e2, List.map_cons, e1]
    · cases h

theorem pureK_ok {C : Ctx} {sp : Specs} (hsp : ∀ g s, sp g = some s → SoundX P C g s) {n : Nat} {st : St} {o : Oper} {K : Slot → Option R} {r : R} (h : pureK P sp n st o K = some r) :
    ∃ s, K s = some r ∧ OpOK P C o st s := by
  have hR : ∀ {x : Operand}, x ∈ o.op.operands → ∀ u, x = .tmp u → u ∈ reads o := fun hx => reads_mem hx
  have mv : ∀ x, o.op = .move x ∨ o.op = .assign x → (match slotOf st x with
    | some s => K s
    | none => match opdN P o.type st x with
      | some tv => K (.v tv)
      | none => match opdX P o.type st x with
        | some tv => K (.v tv)
        | none => none) = some r → ∃ s, K s = some r ∧ OpOK P C o st s := by
    intro x hx h
    have hop : ∀ a : Act, execOp a.eval o = pure (.value (a.eval x)) := fun a => by
      unfold execOp
      rcases hx with hx | hx <;> simp only [hx]
    have hm : x ∈ o.op.operands := by rcases hx with hx | hx <;> simp [hx, Op.operands]
    split at h
    · rename_i s hs
      exact ⟨s, h, .of_pure fun E a w hf => ⟨a.eval x, by rw [hop]; rfl, slotOf_ok hf (hR hm) hs⟩⟩
    · split at h
      · rename_i tv htv
        exact ⟨_, h, .of_pure fun E a w hf => ⟨a.eval x, by rw [hop]; rfl, opdN_ok hf (hR hm) htv⟩⟩
      · split at h
        · rename_i tv htv
          exact ⟨_, h, .of_pure fun E a w hf => ⟨a.eval x, by rw [hop]; rfl, opdX_ok hf (hR hm) htv⟩⟩
        · cases h
  unfold pureK at h
  split at h
  · rename_i x hx; exact mv x (.inl hx) h
  · rename_i x hx; exact mv x (.inr hx) h
  · rename_i c y z ho
    split at h
    · rename_i b s s' hc hs hs'
      have h1 : ∀ a : Act, a.eval c = .bool b → ∀ w, (execOp a.eval o).run P w = .ok (.value (if b then a.eval y else a.eval z)) w := fun a e w => by
        unfold execOp
        simp only [ho, e, asBool, Sem.run_bind, Sem.run_pure, Result.andThen_ok]
      have hdef : ∀ {s : Slot}, defK s K = some r → K s = some r := fun {s} h => by
        unfold defK at h
        split at h
        · cases h
        · exact h
      rcases bif_some h with ⟨hb, h⟩ | ⟨hb, h⟩
      · refine ⟨s, hdef h, .of_pure fun E a w hf => ⟨a.eval y, ?_, slotOf_ok hf (hR (by simp [ho, Op.operands])) hs⟩⟩
        rw [h1 a (vrep_bool (opd_ok hf (hR (by simp [ho, Op.operands])) hc)) w, hb]; rfl
      · refine ⟨s', hdef h, .of_pure fun E a w hf => ⟨a.eval z, ?_, slotOf_ok hf (hR (by simp [ho, Op.operands])) hs'⟩⟩
        rw [h1 a (vrep_bool (opd_ok hf (hR (by simp [ho, Op.operands])) hc)) w, hb]; rfl
    · cases h
  · rename_i op ty x y yt ho
    split at h
    · rename_i hnil
      split at h
      · rename_i va ha
        obtain ⟨s, hs, hv⟩ := nilK_ok h
        refine ⟨s, hs, .of_pure fun E a w hf => ?_⟩
        obtain ⟨v, hrun, hr⟩ := hv E w x y _ (opd_ok hf (hR (by simp [ho, Op.operands])) ha)
        refine ⟨v, ?_, hr⟩
        have hy : a.eval y = .pointer none := by
          unfold nilPtr at hnil
          split at hnil
          · rfl
          · cases hnil
        unfold execOp
        simp only [ho, hy]
        rw [Sem.run_bind, hrun]; rfl
      · cases h
    · -- two values
      split at h
      · rename_i va vb ha hb
        split at h
        · obtain ⟨s, hs, hv⟩ := eqAgg_ok h
          refine ⟨s, hs, .of_pure fun E a w hf => ?_⟩
          obtain ⟨v, hrun, hr⟩ := hv E w x y _ _ (opd_ok hf (hR (by simp [ho, Op.operands])) ha) (opd_ok hf (hR (by simp [ho, Op.operands])) hb)
          refine ⟨v, ?_, hr⟩
          unfold execOp
          simp only [ho]
          rw [Sem.run_bind, hrun]; rfl
        · obtain ⟨s, hs, hv⟩ := binB_ok h
          refine ⟨s, hs, .of_pure fun E a w hf => ?_⟩
          obtain ⟨v, hrun, hr⟩ := hv E w x y _ _ (opd_ok hf (hR (by simp [ho, Op.operands])) ha) (opd_ok hf (hR (by simp [ho, Op.operands])) hb)
          refine ⟨v, ?_, hr⟩
          unfold execOp
          simp only [ho]
          rw [Sem.run_bind, hrun]; rfl
      · split at h
        · rename_i va vb ha hb
          obtain ⟨s, hs, hv⟩ := eqAgg_ok h
          refine ⟨s, hs, .of_pure fun E a w hf => ?_⟩
          obtain ⟨v, hrun, hr⟩ := hv E w x y _ _ (opdX_ok hf (hR (by simp [ho, Op.operands])) ha) (opdX_ok hf (hR (by simp [ho, Op.operands])) hb)
          refine ⟨v, ?_, hr⟩
          unfold execOp
          simp only [ho]
          rw [Sem.run_bind, hrun]; rfl
        · cases h
  · rename_i op ty x ho
    split at h
    · rename_i va ha
      obtain ⟨s, hs, hv⟩ := unK_ok h
      refine ⟨s, hs, .of_pure fun E a w hf => ?_⟩
      obtain ⟨v, hrun, hr⟩ := hv P E w _ (opd_ok hf (hR (by simp [ho, Op.operands])) ha)
      refine ⟨v, ?_, hr⟩
      unfold execOp
      simp only [ho]
      rw [Sem.run_bind, hrun]; rfl
    · cases h
  · rename_i src dst x ho
    split at h
    · rename_i va ha
      obtain ⟨s, hs, hv⟩ := convK_ok h
      refine ⟨s, hs, .of_val fun E a w hf => ?_⟩
      obtain ⟨v, m', w', hrun, hc, hi, hr⟩ := hv C E w _ hf.inv (opd_ok hf (hR (by simp [ho, Op.operands])) ha)
      refine ⟨v, m', w', ?_, hc, hi, hr⟩
      unfold execOp
      simp only [ho]
      rw [Sem.run_bind, hrun]; rfl
    · cases h
  · rename_i ty x lo hi ho
    split at h
    · rename_i va l q ha hl hq
      obtain ⟨s, hs, hv⟩ := sliceK_ok h
      refine ⟨s, hs, .of_pure fun E a w hf => ?_⟩
      obtain ⟨v, hrun, hr⟩ := hv E w _ (lo.map a.eval) (hi.map a.eval) (opd_ok hf (hR (by simp [ho, Op.operands])) ha)
        (bd_ok (intOpt_ok hf (fun z hz => hR (by simp [ho, Op.operands, hz])) hl)) (bd_ok (intOpt_ok hf (fun z hz => hR (by simp [ho, Op.operands, hz])) hq))
      refine ⟨v, ?_, hr⟩
      unfold execOp
      simp only [ho]
      rw [Sem.run_bind]
      show Result.andThen ((Instr.sliceAt ty (a.eval x) (lo.map a.eval) (hi.map a.eval) none).run P w) _ = _
      rw [hrun]; rfl
    · cases h
  · rename_i ty x ho
    split at h
    · rename_i va ha
      obtain ⟨s, hs, hv⟩ := loadK_ok h
      refine ⟨s, hs, .of_pure fun E a w hf => ?_⟩
      obtain ⟨v, hrun, hr⟩ := hv _ E _ w _ hf (opd_ok hf (hR (by simp [ho, Op.operands])) ha)
      refine ⟨v, ?_, hr⟩
      unfold execOp
      simp only [ho]
      rw [Sem.run_bind, hrun]; rfl
    · cases h
  · rename_i ty x f ho
    split at h
    · rename_i va ha
      obtain ⟨s, hs, hv⟩ := fieldAddrK_ok h
      refine ⟨s, hs, .of_pure fun E a w hf => ?_⟩
      obtain ⟨v, hrun, hr⟩ := hv E w _ (opd_ok hf (hR (by simp [ho, Op.operands])) ha)
      refine ⟨v, ?_, hr⟩
      unfold execOp
      simp only [ho]
      rw [Sem.run_bind, hrun]; rfl
    · cases h
  · rename_i ty x f ho
    split at h
    · rename_i va ha
      obtain ⟨s, hs, hv⟩ := fieldK_ok h
      refine ⟨s, hs, .of_pure fun E a w hf => ?_⟩
      obtain ⟨v, hrun, hr⟩ := hv E w _ (opd_ok hf (hR (by simp [ho, Op.operands])) ha)
      refine ⟨v, ?_, hr⟩
      unfold execOp
      simp only [ho]
      rw [Sem.run_bind, hrun]; rfl
    · cases h
  · rename_i ty x i ho
    split at h
    · rename_i va vb ha hb
      obtain ⟨s, hs, hv⟩ := indexK_ok h
      refine ⟨s, hs, .of_pure fun E a w hf => ?_⟩
      obtain ⟨v, hrun, hr⟩ := hv E w _ _ (opd_ok hf (hR (by simp [ho, Op.operands])) ha) (opd_ok hf (hR (by simp [ho, Op.operands])) hb)
      refine ⟨v, ?_, hr⟩
      unfold execOp
      simp only [ho]
      rw [Sem.run_bind, hrun]; rfl
    · cases h
  · rename_i ty x i ho
    split at h
    · rename_i k t kk m ha hb
      obtain ⟨s, hs, hv⟩ := indexSlK_ok h
      refine ⟨s, hs, .of_pure fun E a w hf => ?_⟩
      obtain ⟨v, hrun, hr⟩ := hv _ E _ w _ kk hf (opd_ok hf (hR (by simp [ho, Op.operands])) ha)
      refine ⟨v, ?_, hr⟩
      have hi := vrep_int (opd_ok hf (hR (by simp [ho, Op.operands])) hb)
      unfold execOp
      simp only [ho, hi]
      rw [Sem.run_bind, hrun]; rfl
    · rename_i va vb _ ha hb
      obtain ⟨s, hs, hv⟩ := indexAddrK_ok h
      refine ⟨s, hs, .of_pure fun E a w hf => ?_⟩
      obtain ⟨v, hrun, hr⟩ := hv E w _ _ (opd_ok hf (hR (by simp [ho, Op.operands])) ha) (opd_ok hf (hR (by simp [ho, Op.operands])) hb)
      refine ⟨v, ?_, hr⟩
      unfold execOp
      simp only [ho]
      rw [Sem.run_bind, hrun]; rfl
    · cases h
  · rename_i x i ho
    split at h
    · rename_i t y hy
      split at h
      · rename_i tv htv
        refine ⟨_, h, .of_pure fun E a w hf => ?_⟩
        obtain ⟨vs, hvs, hev⟩ := slotOf_ok hf (hR (by simp [ho, Op.operands])) hy
        obtain ⟨v, hv, hr⟩ := tupAt_ok _ _ _ _ _ htv hvs
        refine ⟨v, ?_, hr⟩
        unfold execOp
        simp only [ho, hev]
        rw [Sem.run_bind]
        have : (Instr.extract (.tuple vs.toArray) i).run P w = .ok v w := by
          unfold Instr.extract
          simp [hv]
        rw [this]; rfl
      · cases h
    · cases h
  · rename_i ty parts ho
    obtain ⟨s, hs, hv⟩ := buildK_ok h
    refine ⟨s, hs, .of_pure fun E a w hf => ?_⟩
    obtain ⟨v, hrun, hr⟩ := hv _ E a w hf (fun p hp u e => hR (by simp only [ho, Op.operands]; exact List.mem_toArray.2 (List.mem_map.2 ⟨p, hp, rfl⟩)) u e)
    refine ⟨v, ?_, hr⟩
    unfold execOp
    simp only [ho]
    rw [Sem.run_bind, hrun]; rfl
  · rename_i ty len parts ho
    obtain ⟨s, hs, hv⟩ := buildSliceK_ok h
    refine ⟨s, hs, .of_val fun E a w hf => ?_⟩
    obtain ⟨v, m', w', hrun, hc, hi, hr⟩ := hv C _ E a w hf (fun p hp u e => hR (by simp only [ho, Op.operands]; exact List.mem_toArray.2 (List.mem_map.2 ⟨p, hp, rfl⟩)) u e)
    refine ⟨v, m', w', ?_, hc, hi, hr⟩
    unfold execOp
    simp only [ho]
    rw [Sem.run_bind, hrun]; rfl
  · rename_i x ho
    split at h
    · rename_i i q t y ha
      refine ⟨_, h, .of_pure fun E a w hf => ?_⟩
      have hv := opd_ok hf (hR (by simp [ho, Op.operands])) ha
      obtain ⟨b, hb, e⟩ := vrep_ptr hv
      refine ⟨a.eval x, ?_, hv⟩
      unfold execOp
      simp only [ho, e]; rfl
    · rename_i t y ha
      refine ⟨_, h, .of_pure fun E a w hf => ?_⟩
      have hv := opd_ok hf (hR (by simp [ho, Op.operands])) ha
      obtain ⟨b, c, e, _⟩ := vrep_ref hv
      refine ⟨a.eval x, ?_, hv⟩
      unfold execOp
      simp only [ho, e]; rfl
    · rename_i k o' e' t y ha
      refine ⟨_, h, .of_pure fun E a w hf => ?_⟩
      have hv := opd_ok hf (hR (by simp [ho, Op.operands])) ha
      obtain ⟨b, hb, e⟩ := vrep_ep hv
      refine ⟨a.eval x, ?_, hv⟩
      unfold execOp
      simp only [ho, e]; rfl
    · rename_i t y ha
      obtain ⟨z, hz, h⟩ := bind_some h
      refine ⟨_, h, .of_pure fun E a w hf => ?_⟩
      have hv := opd_ok hf (hR (by simp [ho, Op.operands])) ha
      rcases vrep_opt hv with ⟨e1, _⟩ | ⟨z', ad, c, e1, e, hr, hw⟩
      · have : (none : Option t.den) = some z := e1.symm.trans hz
        cases this
      · have : some z' = some z := e1.symm.trans hz
        obtain rfl := Option.some.inj this
        refine ⟨a.eval x, ?_, [.pointer (some ad)], ⟨ad, c, rfl, hr, hw⟩, e⟩
        unfold execOp
        simp only [ho, e]; rfl
    · cases h
  · rename_i c ho
    exact callK_ok hsp ho h
  · rename_i g first captured ho
    split at h
    · rename_i tv htv
      refine ⟨_, h, .of_pure fun E a w hf => ?_⟩
      obtain ⟨bs, hbs, hu⟩ := tvsOf_ok hf _ tv (fun x hx => hR (by simp only [ho, Op.operands]; simpa using hx)) htv
      refine ⟨.func (.func g) (first.map a.eval) (captured.map a.eval), ?_, [_], ⟨bs, hbs, rfl⟩, ?_⟩
      · unfold execOp
        simp only [ho]; rfl
      · rw [hu]
        show _ = Value.func (.func g) _ _
        have e1 : ((first.toList ++ captured.toList).map a.eval).take first.size = first.toList.map a.eval := by
          rw [List.map_append, List.take_append_of_le_length (by simp), List.take_of_length_le (by simp)]
        have e2 : ((first.toList ++ captured.toList).map a.eval).drop first.size = captured.toList.map a.eval := by
          rw [List.map_append, List.drop_append_of_le_length (by simp), List.drop_of_length_le (by simp), List.nil_append]
        rw [e1, e2]
        congr 1 <;> (apply Array.ext'; simp)
    · cases h
  · rename_i ty x ho
    split at h
    · rename_i k' k m hu hx
      refine ⟨_, h, .of_pure fun E a w hf => ⟨.iface ty (.int k m), ?_, [_], rfl, rfl⟩⟩
      have hv := vrep_int (opd_ok hf (hR (by simp [ho, Op.operands])) hx)
      unfold execOp
      simp only [ho, hv, Instr.makeInterface, Sem.run_bind, run_underlying hu, Result.andThen_ok, Sem.run_pure]
    · cases h
  · rename_i x xt asserted ho
    split at h
    · rename_i k' T k m hu hx
      split at h
      · rename_i hT
        refine ⟨_, h, .of_pure fun E a w hf => ⟨.int k m, ?_, mkInt _ _ _⟩⟩
        obtain ⟨cs, hcs, hv⟩ := opd_ok hf (hR (by simp [ho, Op.operands])) hx
        have hcs' : cs = [.iface T (.int k m)] := hcs
        subst hcs'
        have hv' : a.eval x = .iface T (.int k m) := hv
        unfold execOp
        simp only [ho, hv', Instr.typeAssert, Sem.run_bind, run_underlying hu, Result.andThen_ok, hT, if_true, Sem.run_pure, Bool.false_eq_true, if_false]
      · cases h
    · cases h
  · cases h
end
end Go.Proofs.YtedenojeljjnaaaGreatDoorPi

namespace Go.Proofs.YtedenojeljjnaaaGreatDoorPi
open Go

/-- A frame's state, seen from its begin (m0, w0). -/
structure Base where
  m : Mem
  X : Nat → Prop
  nb : Nat
  fix : Nat → Option Nat
abbrev Base.of (m : Mem) : Base := ⟨m, fun _ => False, 0, fun _ => none⟩
/-- Boxes that were handed over stay where they are. -/
def Fx (m0 : Base) (E : Env) (b : List (Option Bx)) : Prop := m0.nb ≤ b.length ∧ ∀ i g, i < m0.nb → m0.fix i = some g → ∀ tv, b[i]? = some (some (.one tv)) → E.β i = some g
theorem Fx.mono {m0 : Base} {E E' : Env} {b b' : List (Option Bx)} (h : Fx m0 E b) (hl : b.length ≤ b'.length) (hb : ∀ i tv, i < b.length → b'[i]? = some (some (.one tv)) → (∃ tv', b[i]? = some (some (.one tv'))) ∧ E'.β i = E.β i) : Fx m0 E' b' :=
  ⟨Nat.le_trans h.1 hl, fun i g hi hf tv ht => by
    obtain ⟨⟨tv', h1⟩, h2⟩ := hb i tv (Nat.lt_of_lt_of_le hi h.1) ht
    rw [h2]; exact h.2 i g hi hf tv' h1⟩
theorem Fx.none_ {m0 : Base} {E : Env} {b : List (Option Bx)} (h : m0.nb = 0) : Fx m0 E b := ⟨by omega, fun i g hi => by omega⟩
structure GR (C : Ctx) (m0 : Base) (w0 : World) (E : Env) (st : St) (tmps : Array Value) (w : World) : Prop where
  fr : FR (fun _ => True) E st tmps w
  chg : ChgX m0.X C m0.m w0 E.m w
  own : ∀ i b, E.β i = some b → w0.heap.size ≤ b ∨ m0.X b
  lt : ∀ i b, E.β i = some b → b < w.heap.size
  top : ∀ i, st.b.length ≤ i → E.β i = none ∧ E.τ i = none
  gl : C.Γ E.m
  fx : Fx m0 E st.b

section
variable {P : Program} {C : Ctx} {m0 : Base} {w0 : World} {E : Env} {st : St} {a : Act} {w : World}

theorem FR.put {X : Nat → Prop} {tmps : Array Value} (h : FR X E st tmps w) (d : Option Tmp) {s : Slot} {v : Value} (hs : SlotRep E s v) (a : Act) (ha : a.tmps = tmps) : FR X E (st.put d s) (a.put d v).tmps w := by
  subst ha
  cases d with
  | none => exact h
  | some d =>
    refine ⟨?_, ?_, h.boxes, h.arrs, h.inj, h.inv⟩
    · show (st.t.set d s).length = (a.tmps.setIfInBounds d v).size
      rw [List.length_set, Array.size_setIfInBounds, h.len]
    · intro i q hi hq
      have hq' : (st.t.set d s)[i]? = some q := hq
      show SlotRep E q ((a.tmps.setIfInBounds d v).getD i undef)
      rw [List.getElem?_set] at hq'
      by_cases hd : d = i
      · subst hd
        rw [if_pos rfl] at hq'
        split at hq'
        · rename_i hlt
          obtain rfl := Option.some.inj hq'
          have : d < a.tmps.size := by rw [← h.len]; exact hlt
          simp [this]; exact hs
        · cases hq'
      · rw [if_neg hd] at hq'
        have := h.slots i q hi hq'
        rw [Array.getD_eq_getD_getElem?] at this ⊢
        rw [Array.getElem?_setIfInBounds_ne hd]
        exact this

theorem GR.of_chg {v : Value} {s : Slot} {m' : Mem} {w' : World} (h : GR C m0 w0 E st a.tmps w) (hc : Chg C E.m w m' w') (hi : Inv m' w') (hs : SlotRep { E with m := m' } s v) (d : Option Tmp) :
    GR C m0 w0 { E with m := m' } (st.put d s) (a.put d v).tmps w' :=
  ⟨(h.fr.chg hc hi).put d hs a rfl, h.chg.trans hc (fun _ _ q => q.elim), h.own, fun i b hb => Nat.lt_of_lt_of_le (h.lt i b hb) hc.size, fun i hi' => h.top i (by cases d <;> exact hi'), C.mono hc.sub h.gl, by cases d <;> exact h.fx⟩

def StepOK (P : Program) (C : Ctx) (o : Oper) (st st' : St) : Prop :=
  ∀ (m0 : Base) (w0 : World) (E : Env) (a : Act) (w : World) (Kc : Act → World → Prop) (Q : Exit → Act → World → Prop), GR C m0 w0 E st a.tmps w →
    (∀ v E' w', GR C m0 w0 E' st' (a.put o.dst v).tmps w' → Kc (a.put o.dst v) w') → o.wp P a w Kc Q

theorem OpOK.step {o : Oper} {s : Slot} (h : OpOK P C o st s) : StepOK P C o st (st.put o.dst s) := fun _ _ E a w Kc Q hg hk =>
  h E a w Kc Q (hg.fr.weaken fun _ _ => trivial) hg.gl fun v m' w' hc hi hs => hk v { E with m := m' } w' (hg.of_chg hc hi hs o.dst)

theorem push_chg {C : Ctx} {m : Mem} {w : World} (o : Obj) : Chg C m w m { w with heap := w.heap.push o } := ⟨rfl, rfl, rfl, fun _ => Nat.le_refl _, by simp, fun b hb _ => by
    show (w.heap.push _)[b]? = _
    rw [Array.getElem?_push, if_neg (by omega)], fun _ _ _ => rfl, fun _ _ _ h => h⟩
theorem chg_inv {X : Nat → Prop} {C : Ctx} {m : Mem} {w w' : World} (hc : ChgX X C m w m w') (hx : ∀ b j v, m b j = some v → ¬ X b) (hi : Inv m w) : Inv m w' := fun b j v hv => by
  have h1 := hi b j v hv
  have hlt := cell_lt h1
  unfold World.cell? at h1 ⊢
  rw [hc.heap b hlt (hx b j v hv)]; exact h1
/-- A new box: its block, if it has one, is new; its head, if it has one, is new. -/
theorem GR.new {bx : Bx} {nβ : Option Nat} {nτ : Option Value} {w' : World} {tmps : Array Value} (h : GR C m0 w0 E st tmps w) (hc : Chg C E.m w E.m w')
    (hβ : ∀ b, nβ = some b → b = w.heap.size ∧ b < w'.heap.size)
    (hok : ∀ E', E.le E' → E'.m = E.m → E'.β st.b.length = nβ → E'.τ st.b.length = nτ → (∀ j, E.m w.heap.size j = none) → (match bx with | .one tv => OneOK E' w' st.b.length tv | .arr e t xs => ArrOK E' w' st.b.length e t xs)) :
    ∃ E', E.le E' ∧ E'.β st.b.length = nβ ∧ E'.τ st.b.length = nτ ∧ GR C m0 w0 E' { st with b := st.b ++ [some bx] } tmps w' := by
  have hi : Inv E.m w' := chg_inv hc (fun _ _ _ _ => id) h.fr.inv
  have hf := h.fr.chg hc hi
  let E' : Env := { E with β := fun i => if i = st.b.length then nβ else E.β i, τ := fun i => if i = st.b.length then nτ else E.τ i }
  have hle : E.le E' := ⟨fun _ _ _ h => h, fun i b hb => by
    show (if i = st.b.length then _ else _) = _
    rw [if_neg (fun hh => by rw [(h.top i (by omega)).1] at hb; cases hb)]; exact hb, fun i b hb => by
    show (if i = st.b.length then _ else _) = _
    rw [if_neg (fun hh => by rw [(h.top i (by omega)).2] at hb; cases hb)]; exact hb⟩
  have hnone : ∀ j, E.m w.heap.size j = none := fun j => by
    cases hm : E.m w.heap.size j with
    | none => rfl
    | some v => exact absurd (cell_lt (h.fr.inv _ _ _ hm)) (Nat.lt_irrefl _)
  have e1 : E'.β st.b.length = nβ := by show (if _ then _ else _) = _; rw [if_pos rfl]
  have e2 : E'.τ st.b.length = nτ := by show (if _ then _ else _) = _; rw [if_pos rfl]
  have e3 : ∀ i, i ≠ st.b.length → E'.β i = E.β i := fun i hi => by show (if _ then _ else _) = _; rw [if_neg hi]
  have hinj : ∀ i j b, E'.β i = some b → E'.β j = some b → i = j := fun i j b hbi hbj => by
    by_cases i1 : i = st.b.length <;> by_cases j1 : j = st.b.length
    · omega
    · rw [i1, e1] at hbi; rw [e3 j j1] at hbj
      have := (hβ _ hbi).1
      exact absurd (h.lt _ _ hbj) (by omega)
    · rw [e3 i i1] at hbi; rw [j1, e1] at hbj
      have := (hβ _ hbj).1
      exact absurd (h.lt _ _ hbi) (by omega)
    · rw [e3 i i1] at hbi; rw [e3 j j1] at hbj
      exact h.fr.inj i j b hbi hbj
  have hnew := hok E' hle rfl e1 e2 hnone
  have at_ : ∀ i (c : Bx), (st.b ++ [some bx])[i]? = some (some c) → (i < st.b.length ∧ st.b[i]? = some (some c)) ∨ (i = st.b.length ∧ c = bx) := fun i c hc' => by
    by_cases hlt : i < st.b.length
    · rw [List.getElem?_append_left hlt] at hc'; exact .inl ⟨hlt, hc'⟩
    · rw [List.getElem?_append_right (by omega)] at hc'
      have hi0 : i - st.b.length = 0 := by
        have := (List.getElem?_eq_some_iff.1 hc').1
        simp at this; omega
      rw [hi0] at hc'
      simp only [List.getElem?_cons_zero, Option.some.injEq] at hc'
      exact .inr ⟨by omega, hc'.symm⟩
  have heap_old : ∀ i b, E.β i = some b → w'.heap[b]? = w.heap[b]? ∧ E'.m b = E.m b := fun i b hb => ⟨hc.heap b (h.lt i b hb) id, rfl⟩
  refine ⟨E', hle, e1, e2, ⟨hf.len, fun i s hi' hs => (h.fr.slots i s hi' hs).mono hle, fun i t ht => ?_, fun i e t xs ht => ?_, fun i j b hbi hbj => hinj i j b hbi hbj, hi⟩, h.chg.trans hc (fun _ _ q => q.elim), fun i b hb => ?_, fun i b hb => ?_, fun i hi' => ?_, h.gl, ⟨by simp; exact Nat.le_succ_of_le h.fx.1, fun i g hi hf tv ht => by
    rcases at_ i _ ht with ⟨h0, h1⟩ | ⟨h1, _⟩
    · rw [e3 i (by omega)]; exact h.fx.2 i g hi hf tv h1
    · have := h.fx.1; omega⟩⟩
  · rcases at_ i _ ht with ⟨_, h1⟩ | ⟨h1, rfl⟩
    · exact (h.fr.boxes i t h1).keep hle (heap_old i)
    · rw [h1]; exact hnew
  · rcases at_ i _ ht with ⟨h0, h1⟩ | ⟨h1, rfl⟩
    · exact (h.fr.arrs i e t xs h1).keep hle (e3 i (by omega)) (heap_old i)
    · rw [h1]; exact hnew
  · by_cases i1 : i = st.b.length
    · rw [i1, e1] at hb; rw [(hβ _ hb).1]; exact .inl h.chg.size
    · rw [e3 i i1] at hb; exact h.own i b hb
  · by_cases i1 : i = st.b.length
    · rw [i1, e1] at hb; exact (hβ _ hb).2
    · rw [e3 i i1] at hb; exact Nat.lt_of_lt_of_le (h.lt i b hb) hc.size
  · have hl : st.b.length + 1 ≤ i := by simpa using hi'
    have hne : i ≠ st.b.length := by omega
    refine ⟨by rw [e3 i hne]; exact (h.top i (by omega)).1, ?_⟩
    show (if i = st.b.length then _ else _) = _
    rw [if_neg hne]; exact (h.top i (by omega)).2

theorem GR.newG {bx : Bx} {nβ : Option Nat} {nτ : Option Value} {m' : Mem} {w' : World} {tmps : Array Value} (h : GR C m0 w0 E st tmps w) (hc : Chg C E.m w m' w') (hi : Inv m' w')
    (hβ : ∀ b, nβ = some b → w.heap.size ≤ b ∧ b < w'.heap.size)
    (hok : ∀ E', ({ E with m := m' } : Env).le E' → E'.m = m' → E'.β st.b.length = nβ → E'.τ st.b.length = nτ → (match bx with | .one tv => OneOK E' w' st.b.length tv | .arr e t xs => ArrOK E' w' st.b.length e t xs)) :
    ∃ E', ({ E with m := m' } : Env).le E' ∧ E'.β st.b.length = nβ ∧ E'.τ st.b.length = nτ ∧ GR C m0 w0 E' { st with b := st.b ++ [some bx] } tmps w' := by
  have hf := h.fr.chg hc hi
  let E' : Env := { m := m', β := fun i => if i = st.b.length then nβ else E.β i, τ := fun i => if i = st.b.length then nτ else E.τ i }
  have hle : ({ E with m := m' } : Env).le E' := ⟨fun _ _ _ h => h, fun i b hb => by
    show (if i = st.b.length then _ else _) = _
    rw [if_neg (fun hh => by rw [(h.top i (by omega)).1] at hb; cases hb)]; exact hb, fun i b hb => by
    show (if i = st.b.length then _ else _) = _
    rw [if_neg (fun hh => by rw [(h.top i (by omega)).2] at hb; cases hb)]; exact hb⟩
  have e1 : E'.β st.b.length = nβ := by show (if _ then _ else _) = _; rw [if_pos rfl]
  have e2 : E'.τ st.b.length = nτ := by show (if _ then _ else _) = _; rw [if_pos rfl]
  have e3 : ∀ i, i ≠ st.b.length → E'.β i = E.β i := fun i hi => by show (if _ then _ else _) = _; rw [if_neg hi]
  have hinj : ∀ i j b, E'.β i = some b → E'.β j = some b → i = j := fun i j b hbi hbj => by
    by_cases i1 : i = st.b.length <;> by_cases j1 : j = st.b.length
    · omega
    · rw [i1, e1] at hbi; rw [e3 j j1] at hbj
      have := (hβ _ hbi).1
      exact absurd (h.lt _ _ hbj) (by omega)
    · rw [e3 i i1] at hbi; rw [j1, e1] at hbj
      have := (hβ _ hbj).1
      exact absurd (h.lt _ _ hbi) (by omega)
    · rw [e3 i i1] at hbi; rw [e3 j j1] at hbj
      exact h.fr.inj i j b hbi hbj
  have hnew := hok E' hle rfl e1 e2
  have hle0 : E.le E' := ⟨fun b j v hv => hle.m b j v (hc.sub b j v hv), hle.β, hle.τ⟩
  have at_ : ∀ i (c : Bx), (st.b ++ [some bx])[i]? = some (some c) → (i < st.b.length ∧ st.b[i]? = some (some c)) ∨ (i = st.b.length ∧ c = bx) := fun i c hc' => by
    by_cases hlt : i < st.b.length
    · rw [List.getElem?_append_left hlt] at hc'; exact .inl ⟨hlt, hc'⟩
    · rw [List.getElem?_append_right (by omega)] at hc'
      have hi0 : i - st.b.length = 0 := by
        have := (List.getElem?_eq_some_iff.1 hc').1
        simp at this; omega
      rw [hi0] at hc'
      simp only [List.getElem?_cons_zero, Option.some.injEq] at hc'
      exact .inr ⟨by omega, hc'.symm⟩
  have heap_old : ∀ i b, E.β i = some b → w'.heap[b]? = w.heap[b]? ∧ E'.m b = E.m b := fun i b hb => ⟨hc.heap b (h.lt i b hb) id, hc.mem b (h.lt i b hb) id⟩
  refine ⟨E', hle, e1, e2, ⟨hf.len, fun i s hi' hs => (h.fr.slots i s hi' hs).mono hle0, fun i t ht => ?_, fun i e t xs ht => ?_, fun i j b hbi hbj => hinj i j b hbi hbj, hi⟩, h.chg.trans hc (fun _ _ q => q.elim), fun i b hb => ?_, fun i b hb => ?_, fun i hi' => ?_, C.mono hc.sub h.gl, ⟨by simp; exact Nat.le_succ_of_le h.fx.1, fun i g hi hf tv ht => by
    rcases at_ i _ ht with ⟨h0, h1⟩ | ⟨h1, _⟩
    · rw [e3 i (by omega)]; exact h.fx.2 i g hi hf tv h1
    · have := h.fx.1; omega⟩⟩
  · rcases at_ i _ ht with ⟨_, h1⟩ | ⟨h1, rfl⟩
    · exact (h.fr.boxes i t h1).keep hle0 (heap_old i)
    · rw [h1]; exact hnew
  · rcases at_ i _ ht with ⟨h0, h1⟩ | ⟨h1, rfl⟩
    · exact (h.fr.arrs i e t xs h1).keep hle0 (e3 i (by omega)) (heap_old i)
    · rw [h1]; exact hnew
  · by_cases i1 : i = st.b.length
    · rw [i1, e1] at hb; exact .inl (Nat.le_trans h.chg.size (hβ _ hb).1)
    · rw [e3 i i1] at hb; exact h.own i b hb
  · by_cases i1 : i = st.b.length
    · rw [i1, e1] at hb; exact (hβ _ hb).2
    · rw [e3 i i1] at hb; exact Nat.lt_of_lt_of_le (h.lt i b hb) hc.size
  · have hl : st.b.length + 1 ≤ i := by simpa using hi'
    have hne : i ≠ st.b.length := by omega
    refine ⟨by rw [e3 i hne]; exact (h.top i (by omega)).1, ?_⟩
    show (if i = st.b.length then _ else _) = _
    rw [if_neg hne]; exact (h.top i (by omega)).2

theorem GR.putS {tmps : Array Value} (h : GR C m0 w0 E st tmps w) (d : Option Tmp) {s : Slot} {v : Value} (hs : SlotRep E s v) (a : Act) (ha : a.tmps = tmps) : GR C m0 w0 E (st.put d s) (a.put d v).tmps w :=
  ⟨h.fr.put d hs a ha, h.chg, h.own, h.lt, fun i hi => h.top i (by cases d <;> exact hi), h.gl, by cases d <;> exact h.fx⟩
theorem put_b (st : St) (d : Option Tmp) (s : Slot) (b : List (Option Bx)) : ({ st with b := b } : St).put d s = { (st.put d s) with b := b } := by cases d <;> rfl

/-- A new variable in memory. -/
theorem GR.box {o : Obj} {cs : List Value} {e : TypeId} {tv : TV} (ho : o = .cells cs.toArray e) (he : eltOf tv.t e = e) (h : GR C m0 w0 E st a.tmps w) (hr : rep E tv.t tv.x cs) (d : Option Tmp) {w' : World} (hw : w' = { w with heap := w.heap.push o }) :
    ∃ E', GR C m0 w0 E' { (st.put d (.v ⟨.ptr st.b.length 0 tv.t, ()⟩)) with b := st.b ++ [some (.one tv)] } (a.put d (.pointer (some ⟨w.heap.size, 0, none⟩))).tmps w' := by
  subst ho hw
  obtain ⟨E', hle, hb, _, hg⟩ := h.new (bx := .one tv) (nβ := some w.heap.size) (nτ := none) (push_chg (.cells cs.toArray e)) (fun b hb => by obtain rfl := Option.some.inj hb; simp) (fun E' hle hm hb _ hnone =>
    ⟨w.heap.size, cs, e, hb, by simp [he], rep_mono hle _ _ _ hr, fun j => by rw [hm]; exact hnone j⟩)
  have := hg.putS d (s := .v ⟨.ptr st.b.length 0 tv.t, ()⟩) (v := .pointer (some ⟨w.heap.size, 0, none⟩)) ⟨[_], ⟨w.heap.size, hb, rfl⟩, rfl⟩ a rfl
  rw [put_b] at this
  exact ⟨E', this⟩

theorem run_storeVar {w : World} {ty : TypeId} {inf : TypeInfo} {blk o : Nat} {e : TypeId} {pre c0 post : List Value} {v : Value} (hinf : P.info? ty = some inf) (hh : w.heap[blk]? = some (.cells (pre ++ c0 ++ post).toArray e (0, 0)))
    (ho : pre.length = o) (hl : c0.length = v.cells.size) (hs : inf.size = v.cells.size) (h1 : ∀ u ∈ v.cells.toList, u.oneCell' = true) :
    (storeVar ty ⟨blk, o, none⟩ v).run P w = .ok () (w.setRow blk (pre ++ v.cells.toList ++ post).toArray) := by
  unfold storeVar
  rw [Sem.run_bind, run_sizeOf' hinf, Result.andThen_ok, if_neg (by omega)]
  show (storeCells ⟨blk, o, none⟩ v.cells.toList 0).run P w = _
  rw [run_storeCells_at P blk o e v.cells.toList 0 _ w hh (by simp; omega) h1]
  congr 2
  simp only [Nat.add_zero]
  subst ho
  have e1 : (pre ++ c0 ++ post).take pre.length = pre := by simp
  have e2 : (pre ++ c0 ++ post).drop (pre.length + v.cells.toList.length) = post := by
    have : pre.length + v.cells.toList.length = (pre ++ c0).length := by simp [hl]
    rw [this, List.drop_left]
  rw [e1, e2]

theorem rep_oneCell {E : Env} : ∀ (t : Ty) (x : t.den) (cs : List Value), rep E t x cs → ∀ u ∈ cs, u.oneCell' = true
  | .unit, _, _, r => by rw [show _ = [] from r]; simp
  | .bool, _, _, r => by rw [show _ = [_] from r]; simp [Value.oneCell']
  | .int _, _, _, r => by rw [show _ = [_] from r]; simp [Value.oneCell']
  | .str, _, _, r => by rw [show _ = [_] from r]; simp [Value.oneCell']
  | .pair a b, _, _, ⟨c1, c2, e, r1, r2⟩ => by
    rw [e]; intro u hu
    rcases List.mem_append.1 hu with h | h
    · exact rep_oneCell a _ _ r1 u h
    · exact rep_oneCell b _ _ r2 u h
  | .list t, _, _, ⟨A, cap, e, _⟩ => by rw [e]; simp [Value.oneCell']
  | .nl t, _, _, r => by rw [show _ = [_] from r]; simp [Value.oneCell']
  | .opt t, _, _, .inl ⟨_, e⟩ => by rw [e]; simp [Value.oneCell']
  | .opt t, _, _, .inr ⟨_, _, _, _, e, _⟩ => by rw [e]; simp [Value.oneCell']
  | .ep _ _ _ _, _, _, ⟨b, _, e⟩ => by rw [e]; simp [Value.oneCell']
  | .sl _ t, _, _, ⟨A, n, cap, _, e⟩ => by rw [e]; simp [Value.oneCell']
  | .ref t, _, _, ⟨a, c, e, _⟩ => by rw [e]; simp [Value.oneCell']
  | .ptr _ _ _, _, _, ⟨b, _, e⟩ => by rw [e]; simp [Value.oneCell']
  | .fn _ _ b, _, _, ⟨bs, _, e⟩ => by rw [e]; simp [Value.oneCell']
  | .bld _ _ _, _, _, ⟨_, _, _, _, e, _⟩ => by rw [e]; simp [Value.oneCell']
  | .nif, _, _, r => by rw [show _ = [_] from r]; simp [Value.oneCell']
  | .ifi _ _, _, _, r => by rw [show _ = [_] from r]; simp [Value.oneCell']

theorem setRow_else (w : World) (b : Nat) (c : Array Value) (k : Nat) (h : k ≠ b) : (w.setRow b c).heap[k]? = w.heap[k]? := by
  unfold World.setRow
  simp only [Array.getElem?_modify]
  rw [if_neg (by omega)]
theorem setRow_size' (w : World) (b : Nat) (c : Array Value) : (w.setRow b c).heap.size = w.heap.size := by
  unfold World.setRow; simp

/-- A box is given new contents. -/
theorem GR.upd {tmps : Array Value} {i ad : Nat} {cs cs' : List Value} {e : TypeId} {bx : Bx} (h : GR C m0 w0 E st tmps w) (hb : E.β i = some ad) (hh : w.heap[ad]? = some (.cells cs.toArray e (0, 0))) (hm : ∀ j, E.m ad j = none)
    (hkind : ∀ tv, bx = .one tv → ∃ tv', st.b[i]? = some (some (.one tv')))
    (hok : (w.setRow ad cs'.toArray).heap[ad]? = some (.cells cs'.toArray e (0, 0)) → (match bx with | .one tv => OneOK E (w.setRow ad cs'.toArray) i tv | .arr e t xs => ArrOK E (w.setRow ad cs'.toArray) i e t xs)) :
    GR C m0 w0 E { st with b := st.b.set i (some bx) } tmps (w.setRow ad cs'.toArray) := by
  have hok := hok (Go.setRow_heap w ad _ _ e (0, 0) hh)
  have other : ∀ j b, i ≠ j → E.β j = some b → (w.setRow ad cs'.toArray).heap[b]? = w.heap[b]? ∧ E.m b = E.m b := fun j b hij hbj => ⟨setRow_else _ _ _ _ (fun hh3 => hij (h.fr.inj i j b (by rw [hb, hh3]) hbj)), rfl⟩
  have at_ : ∀ j (c : Bx), (st.b.set i (some bx))[j]? = some (some c) → (i = j ∧ c = bx) ∨ (i ≠ j ∧ st.b[j]? = some (some c)) := fun j c hc => by
    rw [List.getElem?_set] at hc
    by_cases hij : i = j
    · rw [if_pos hij] at hc
      split at hc
      · simp only [Option.some.injEq] at hc; exact .inl ⟨hij, hc.symm⟩
      · cases hc
    · rw [if_neg hij] at hc; exact .inr ⟨hij, hc⟩
  refine ⟨⟨h.fr.len, h.fr.slots, fun j t ht => ?_, fun j e t xs ht => ?_, h.fr.inj, fun b j u hu => ?_⟩, ?_, h.own, fun j b hb => ?_, fun j hj => h.top j (by simpa using hj), h.gl, h.fx.mono (by simp) fun j tv hj ht => ?_⟩
  · rcases at_ j _ ht with ⟨rfl, rfl⟩ | ⟨hij, h1⟩
    · exact hok
    · exact (h.fr.boxes j t h1).keep (.refl E) (fun b hbj => other j b hij hbj)
  · rcases at_ j _ ht with ⟨rfl, rfl⟩ | ⟨hij, h1⟩
    · exact hok
    · exact (h.fr.arrs j e t xs h1).keep (.refl E) rfl (fun b hbj => other j b hij hbj)
  · have h1 := h.fr.inv b j u hu
    have hne : b ≠ ad := fun hh3 => by subst hh3; rw [hm j] at hu; cases hu
    unfold World.cell? at h1 ⊢
    rw [setRow_else _ _ _ _ hne]; exact h1
  · have hle := h.own i ad hb
    exact ⟨h.chg.os, h.chg.tape, h.chg.output, h.chg.drawn, by rw [setRow_size']; exact h.chg.size, fun b hb' hx => by rw [setRow_else _ _ _ _ (fun q => by subst q; rcases hle with q | q; omega; exact hx q)]; exact h.chg.heap b hb' hx, h.chg.mem, h.chg.sub⟩
  · rw [setRow_size']; exact h.lt j b hb
  · rcases at_ j _ ht with ⟨rfl, q⟩ | ⟨hij, h1⟩
    · exact ⟨hkind tv q.symm, rfl⟩
    · exact ⟨⟨tv, h1⟩, rfl⟩

/-- A variable in memory is written. -/
theorem GR.store {i : Nat} {c : TV} {y : c.t.den} {q : Nat} {tv : TV} {v : Value} {ty : TypeId} {inf : TypeInfo} (h : GR C m0 w0 E st a.tmps w) (hc : st.b[i]? = some (some (.one c))) (hy : setAt c.t c.x q tv = some y) (hv : VRep E tv.t tv.x v)
    (hinf : P.info? ty = some inf) (hs : inf.size = tv.t.size) {ad : Nat} (hb : E.β i = some ad) :
    ∃ w', (storeVar ty ⟨ad, q, none⟩ v).run P w = .ok () w' ∧ GR C m0 w0 E { st with b := st.b.set i (some (.one ⟨c.t, y⟩)) } a.tmps w' := by
  obtain ⟨blk, cs, e, hb', hh, hr, hm⟩ := h.fr.boxes i c hc
  obtain rfl : ad = blk := Option.some.inj (hb.symm.trans hb')
  obtain ⟨pre, c0, post, rfl, hp, hl, hset⟩ := setAt_ok _ _ _ _ _ hy hr
  have hvc := hv.cells
  have hvl := rep_length _ _ _ hvc
  have hsz : v.cells.size = tv.t.size := by rw [← hvl]; simp
  exact ⟨_, run_storeVar hinf hh hp (by omega) (by omega) (rep_oneCell _ _ _ hvc), h.upd (bx := .one ⟨c.t, y⟩) hb hh hm (fun _ _ => ⟨c, hc⟩) fun hnew => ⟨ad, _, e, hb, hnew, hset _ hvc, hm⟩⟩

/-- An element of an array under construction is written. -/
theorem GR.storeE {k : Nat} {e0 : TypeId} {u : Ty} {xs : List u.den} {i : Nat} {x0 y : u.den} {q : Nat} {tv : TV} {v : Value} {ty : TypeId} {inf : TypeInfo} (h : GR C m0 w0 E st a.tmps w) (hc : st.b[k]? = some (some (.arr e0 u xs))) (hx : xs[i]? = some x0) (hy : setAt u x0 q tv = some y) (hv : VRep E tv.t tv.x v)
    (hinf : P.info? ty = some inf) (hs : inf.size = tv.t.size) {ad : Nat} (hb : E.β k = some ad) :
    ∃ w', (storeVar ty ⟨ad, i * u.size + q, none⟩ v).run P w = .ok () w' ∧ GR C m0 w0 E { st with b := st.b.set k (some (.arr e0 u (xs.set i y))) } a.tmps w' := by
  obtain ⟨hd, l, hτ, ho, hr, hβ, hm⟩ := h.fr.arrs k e0 u xs hc
  have hob : hd.ownBlock = some ad := hβ.symm.trans hb
  rcases ho.2 with ⟨rfl, _⟩ | ⟨g, cap, cur, rfl, _, hg, hnc, hcm, hcs, htake⟩
  · simp [Value.ownBlock] at hob
  · obtain rfl : g = ad := Option.some.inj hob
    obtain ⟨pre, c, post, hl, hp, hrc, hset⟩ := reps_at xs l i x0 hr hx
    obtain ⟨pre2, c0, post2, hc2, hp2, hl2, hset2⟩ := setAt_ok _ _ _ _ _ hy hrc
    have hvc := hv.cells
    have hvl := rep_length _ _ _ hvc
    have hsz : v.cells.size = tv.t.size := by rw [← hvl]; simp
    have hcur : cur.toList = (pre ++ pre2) ++ c0 ++ (post2 ++ post ++ cur.toList.drop (xs.length * u.size)) := by
      conv => lhs; rw [← List.take_append_drop (xs.length * u.size) cur.toList, htake, hl, hc2]
      simp [List.append_assoc]
    have hg' : w.heap[g]? = some (.cells ((pre ++ pre2) ++ c0 ++ (post2 ++ post ++ cur.toList.drop (xs.length * u.size))).toArray e0 (0, 0)) := by rw [← hcur]; simpa using hg
    have hrep := hset y _ (hset2 _ hvc)
    have hrl := reps_length _ _ hrep
    have e1 : (pre ++ pre2) ++ v.cells.toList ++ (post2 ++ post ++ cur.toList.drop (xs.length * u.size)) = (pre ++ (pre2 ++ v.cells.toList ++ post2) ++ post) ++ cur.toList.drop (xs.length * u.size) := by simp [List.append_assoc]
    have hlen0 : (pre ++ (pre2 ++ v.cells.toList ++ post2) ++ post).length = xs.length * u.size := by rw [hrl, List.length_set]
    refine ⟨_, run_storeVar hinf hg' (by rw [List.length_append, hp, hp2]) (by omega) (by omega) (rep_oneCell _ _ _ hvc), h.upd (bx := .arr e0 u (xs.set i y)) hb hg' (fun j => hm g j rfl) (fun _ q => by cases q) fun hnew => ⟨_, _, hτ, ⟨by rw [List.length_set]; exact hlen0, .inr ⟨g, cap, _, by rw [List.length_set], Nat.zero_le _, hnew, by rw [List.length_set]; exact hnc, hcm, ?_, ?_⟩⟩, hrep, hβ, hm⟩⟩
    · rw [← hcs]
      have hcl : cur.size = ((pre ++ pre2) ++ c0 ++ (post2 ++ post ++ cur.toList.drop (xs.length * u.size))).length := by rw [← hcur]; simp
      simp only [List.size_toArray, List.length_append, Array.length_toList] at hcl ⊢
      omega
    · show List.take _ (List.toArray _).toList = _
      rw [List.toList_toArray, e1, List.length_set, ← hlen0, List.take_left]

theorem zero_rep {t : Ty} {x : t.den} {z : Value} (E : Env) (h : ofCells t z.cells.toList = some (x, [])) : rep E t x z.cells.toList := by
  obtain ⟨c, e, q⟩ := ofCells_ok E _ _ _ _ h
  rw [List.append_nil] at e
  rw [e]; exact q

/-! what is laid down for good -/
theorem GR.mapS {tmps : Array Value} (h : GR C m0 w0 E st tmps w) (f : Slot → Slot) (hf : ∀ s v, SlotRep E s v → SlotRep E (f s) v) : GR C m0 w0 E ⟨st.t.map f, st.b⟩ tmps w :=
  ⟨⟨by show (st.t.map f).length = _; rw [List.length_map]; exact h.fr.len, fun i s _ hs => by
    have hs' : (st.t.map f)[i]? = some s := hs
    rw [List.getElem?_map, Option.map_eq_some_iff] at hs'
    obtain ⟨s0, h0, rfl⟩ := hs'
    exact hf _ _ (h.fr.slots i s0 trivial h0), h.fr.boxes, h.fr.arrs, h.fr.inj, h.fr.inv⟩, h.chg, h.own, h.lt, h.top, h.gl, h.fx⟩
theorem commit_le {m : Mem} {g : Nat} {l : List Value} (hm : ∀ j, m g j = none) : ∀ b j v, m b j = some v → commit m g l b j = some v := fun b j v hv => by
  unfold commit
  split
  · rename_i e; subst e; rw [hm j] at hv; cases hv
  · exact hv
theorem GR.drop {tmps : Array Value} (h : GR C m0 w0 E st tmps w) (i : Nat) : GR C m0 w0 E { st with b := st.b.set i none } tmps w := by
  have at_ : ∀ j (c : Bx), (st.b.set i none)[j]? = some (some c) → st.b[j]? = some (some c) ∧ j ≠ i := fun j c hc => by
    rw [List.getElem?_set] at hc
    split at hc
    · split at hc
      · cases hc
      · cases hc
    · rename_i hne; exact ⟨hc, fun q => hne q.symm⟩
  exact ⟨⟨h.fr.len, h.fr.slots, fun j t hj => h.fr.boxes j t (at_ j _ hj).1, fun j e t xs hj => h.fr.arrs j e t xs (at_ j _ hj).1, h.fr.inj, h.fr.inv⟩, h.chg, h.own, h.lt, fun j hj => h.top j (by simpa using hj), h.gl, h.fx.mono (by simp) fun j tv _ ht => ⟨⟨tv, (at_ j _ ht).1⟩, rfl⟩⟩
theorem GR.commit {tmps : Array Value} {i g : Nat} {l : List Value} (h : GR C m0 w0 E st tmps w) (hb : E.β i = some g) (hm : ∀ j, E.m g j = none) (hl : ∀ j v, l[j]? = some v → w.cell? ⟨g, j, none⟩ = some v) :
    GR C m0 w0 { E with m := commit E.m g l } { st with b := st.b.set i none } tmps w ∧ E.le { E with m := YtedenojeljjnaaaGreatDoorPi.commit E.m g l } := by
  have hle : E.le { E with m := YtedenojeljjnaaaGreatDoorPi.commit E.m g l } := Env.le_m (commit_le hm)
  have at_ : ∀ j (c : Bx), (st.b.set i none)[j]? = some (some c) → st.b[j]? = some (some c) ∧ j ≠ i := fun j c hc => by
    rw [List.getElem?_set] at hc
    split at hc
    · split at hc
      · cases hc
      · cases hc
    · rename_i hne; exact ⟨hc, fun q => hne q.symm⟩
  have other : ∀ j b, j ≠ i → E.β j = some b → w.heap[b]? = w.heap[b]? ∧ YtedenojeljjnaaaGreatDoorPi.commit E.m g l b = E.m b := fun j b hj hbj => ⟨rfl, by
    funext x; unfold YtedenojeljjnaaaGreatDoorPi.commit; rw [if_neg (fun q => hj (h.fr.inj j i b hbj (by rw [q]; exact hb)))]⟩
  refine ⟨⟨⟨h.fr.len, fun k s hk hs => (h.fr.slots k s hk hs).mono hle, fun j t hj => (h.fr.boxes j t (at_ j _ hj).1).keep hle (other j · (at_ j _ hj).2), fun j e t xs hj => (h.fr.arrs j e t xs (at_ j _ hj).1).keep hle rfl (other j · (at_ j _ hj).2), h.fr.inj, fun b j v hv => ?_⟩, ⟨h.chg.os, h.chg.tape, h.chg.output, h.chg.drawn, h.chg.size, h.chg.heap, fun b hb' hx => ?_, fun b j v q => hle.m b j v (h.chg.sub b j v q)⟩, h.own, h.lt, fun j hj => h.top j (by simpa using hj), C.mono hle.m h.gl, h.fx.mono (by simp) fun j tv _ ht => ⟨⟨tv, (at_ j _ ht).1⟩, rfl⟩⟩, hle⟩
  · have hv' : YtedenojeljjnaaaGreatDoorPi.commit E.m g l b j = some v := hv
    unfold YtedenojeljjnaaaGreatDoorPi.commit at hv'
    split at hv'
    · rename_i e; subst e; exact hl j v hv'
    · exact h.fr.inv b j v hv'
  · rw [← h.chg.mem b hb' hx]
    funext x
    show YtedenojeljjnaaaGreatDoorPi.commit E.m g l b x = _
    unfold YtedenojeljjnaaaGreatDoorPi.commit
    rw [if_neg (fun q => by subst q; rcases h.own i b hb with q | q; omega; exact hx q)]

theorem GR.frz {tmps : Array Value} (h : GR C m0 w0 E st tmps w) (i : Nat) : ∃ E', GR C m0 w0 E' (st.frz i) tmps w := by
  unfold St.frz
  split
  · rename_i c hc
    cases c with
    | one tv =>
      obtain ⟨blk, cs, e, hb, hh, hr, hm⟩ := h.fr.boxes i tv hc
      obtain ⟨hg, hle⟩ := h.commit (l := cs) hb hm (fun j v hj => cell_blk hh hj)
      refine ⟨_, hg.mapS (frzS i (.one tv)) fun s v hs => ?_⟩
      unfold frzS
      split
      · split
        · trivial
        · exact hs
      · rename_i k o t y
        split
        · rename_i hk
          subst hk
          split
          · rename_i tv' heq
            simp only [Bx.one.injEq] at heq
            subst heq
            split
            · rename_i z hz
              obtain ⟨b, hb', rfl⟩ := vrep_ptr hs
              obtain rfl : blk = b := Option.some.inj (hb.symm.trans hb')
              obtain ⟨pre, q, post, rfl, hp, hq⟩ := getAt_ok _ _ _ _ hz hr
              refine ⟨[.pointer (some ⟨blk, o, none⟩)], ⟨_, q, rfl, rep_mono hle _ _ _ hq, rfl, fun j v hj => ?_⟩, rfl⟩
              show YtedenojeljjnaaaGreatDoorPi.commit E.m blk (pre ++ q ++ post) blk (o + j) = some v
              unfold YtedenojeljjnaaaGreatDoorPi.commit
              rw [if_pos rfl, List.append_assoc, List.getElem?_append_right (by omega), show o + j - pre.length = j by omega, List.getElem?_append_left (List.getElem?_eq_some_iff.1 hj).1]
              exact hj
            · trivial
          · rename_i hno; exact (hno _ rfl).elim
        · exact hs
      · exact hs
    | arr e t xs =>
      obtain ⟨hd, l, hτ, ho, hr, hβ, hm⟩ := h.fr.arrs i e t xs hc
      rcases ho.2 with ⟨rfl, hn⟩ | ⟨g, cap, cur, rfl, _, hg, hnc, hcm, hcs, htake⟩
      · have hxs : xs = [] := List.eq_nil_of_length_eq_zero hn
        subst hxs
        refine ⟨E, (h.drop i).mapS (frzS i (.arr e t [])) fun s v hs => ?_⟩
        unfold frzS
        split
        · rename_i k t2 y
          split
          · rename_i hk
            subst hk
            split
            · rename_i e' t' xs' heq
              simp only [Bx.arr.injEq] at heq
              obtain ⟨rfl, rfl, heq⟩ := heq
              obtain rfl := eq_of_heq heq
              split
              · obtain ⟨A, n, cp, rfl, hτ2⟩ := vrep_sl hs
                have := Option.some.inj (hτ.symm.trans hτ2)
                simp only [Value.slice.injEq] at this
                obtain ⟨rfl, rfl, rfl⟩ := this
                exact ⟨[.slice none 0 0], ⟨none, 0, rfl, fun _ => rfl, Nat.le_refl _, fun i x hx => by simp at hx⟩, rfl⟩
              · trivial
            · rename_i hno; exact (hno _ _ _ rfl).elim
          · exact hs
        · split
          · trivial
          · exact hs
        · exact hs
      · have hob : E.β i = some g := hβ
        obtain ⟨hg', hle⟩ := h.commit (l := l) hob (fun j => hm g j rfl) (fun j v hj => by
          have := ho.cells (g := g) rfl j v hj
          rw [add_spotless, Nat.zero_add] at this; exact this)
        refine ⟨_, hg'.mapS (frzS i (.arr e t xs)) fun s v hs => ?_⟩
        unfold frzS
        split
        · rename_i k t2 y
          split
          · rename_i hk
            subst hk
            split
            · rename_i e' t' xs' heq
              simp only [Bx.arr.injEq] at heq
              obtain ⟨rfl, rfl, heq⟩ := heq
              obtain rfl := eq_of_heq heq
              split
              · obtain ⟨A, n, cp, rfl, hτ2⟩ := vrep_sl hs
                have := Option.some.inj (hτ.symm.trans hτ2)
                simp only [Value.slice.injEq] at this
                obtain ⟨rfl, rfl, rfl⟩ := this
                refine ⟨[.slice (some ⟨g, 0, none⟩) xs.length cap], ⟨some ⟨g, 0, none⟩, cap, rfl, fun q => (nomatch q), hnc, fun j x hx => ?_⟩, rfl⟩
                obtain ⟨pre, c, post, hl2, hp, hrc, _⟩ := reps_at xs l j x hr hx
                refine ⟨⟨g, 0, none⟩, c, rfl, rfl, rep_mono hle _ _ _ hrc, rfl, fun q v hq => ?_⟩
                show YtedenojeljjnaaaGreatDoorPi.commit E.m g l g (0 + j * t.size + q) = some v
                unfold YtedenojeljjnaaaGreatDoorPi.commit
                rw [if_pos rfl, hl2, List.append_assoc, List.getElem?_append_right (by omega), show 0 + j * t.size + q - pre.length = q by omega, List.getElem?_append_left (List.getElem?_eq_some_iff.1 hq).1]
                exact hq
              · trivial
            · rename_i hno; exact (hno _ _ _ rfl).elim
          · exact hs
        · split
          · trivial
          · exact hs
        · exact hs
  · exact ⟨E, h⟩
theorem GR.frzO {tmps : Array Value} (h : GR C m0 w0 E st tmps w) (p : Bool) (x : Operand) : ∃ E', GR C m0 w0 E' (st.frzO p x) tmps w := by
  unfold St.frzO
  split
  · split
    · exact h.frz _
    · split
      · exact h.frz _
      · exact ⟨E, h⟩
    · exact ⟨E, h⟩
  · exact ⟨E, h⟩
theorem GR.frzL {tmps : Array Value} (p : Bool) : ∀ (l : List Operand) (E : Env) (st : St), GR C m0 w0 E st tmps w → ∃ E', GR C m0 w0 E' (st.frzL p l) tmps w
  | [], E, _, h => ⟨E, h⟩
  | x :: r, _, _, h => by
    obtain ⟨E1, h1⟩ := h.frzO p x
    exact GR.frzL p r E1 _ h1

/-! appends -/
theorem rows_cells {E : Env} {t : Ty} {b : Nat} : ∀ (xs : List t.den) (off : Nat), (∀ (i : Nat) x, xs[i]? = some x → ∃ c, rep E t x c ∧ Row E.m ⟨b, off + i * t.size, none⟩ c) → ∃ l, reps E t xs l ∧ ∀ j u, l[j]? = some u → E.m b (off + j) = some u
  | [], _, _ => ⟨[], rfl, fun j u h => by simp at h⟩
  | x :: xs, off, h => by
    obtain ⟨c, hr, hw⟩ := h 0 x rfl
    obtain ⟨l, hl, hm⟩ := rows_cells xs (off + t.size) (fun i y hy => by
      obtain ⟨c, hr, hw⟩ := h (i + 1) y hy
      exact ⟨c, hr, by rw [show off + t.size + i * t.size = off + (i + 1) * t.size by rw [Nat.add_mul]; omega]; exact hw⟩)
    refine ⟨c ++ l, ⟨c, l, rfl, hr, hl⟩, fun j u hj => ?_⟩
    have hlen := rep_length _ _ _ hr
    by_cases hlt : j < c.length
    · rw [List.getElem?_append_left hlt] at hj
      have := hw.2 j u hj
      simpa using this
    · rw [List.getElem?_append_right (by omega)] at hj
      have := hm _ u hj
      rw [show off + j = off + t.size + (j - c.length) by omega]; exact this
theorem reps_oneCell {E : Env} {t : Ty} : ∀ (xs : List t.den) (l : List Value), reps E t xs l → ∀ u ∈ l, u.oneCell' = true
  | [], _, r => by rw [show _ = [] from r]; simp
  | x :: xs, _, ⟨c1, c2, e, r1, r2⟩ => by
    rw [e]; intro u hu
    rcases List.mem_append.1 hu with h | h
    · exact rep_oneCell _ _ _ r1 u h
    · exact reps_oneCell xs _ r2 u h

/-- What append does with an array that is the call's own. -/
theorem app_run {t ty e : TypeId} {i : TypeInfo} {z : Value} {size : Nat} (ht : P.underlying t = some (.slice e)) (hi : P.info? e = some i) (hz : i.zero = some z) (hsize : i.size = size) (hzs : z.cells.size = size) (hsz : 0 < size)
    {v : Value} {n : Nat} {xs : List Value} (hown : w.ownsRow 0 e size v n xs) {ad : Addr} {m c : Nat} {news : List Value} (hl : news.length = m * size) (hnews : ∀ j u, news[j]? = some u → w.cell? (ad.add j) = some u) (h1 : ∀ u ∈ news, u.oneCell' = true)
    (hb : (n + m) * (i.bytes + 1) ≤ 140737488355328) :
    ∃ v' w', (Builtin.append_ #[t, t] ty #[v, .slice (some ad) m c]).run P w = .ok v' w' ∧ w'.ownsRow 0 e size v' (n + m) (xs ++ news) ∧ w.grownBy w' v.ownBlock ∧ w.drawn ≤ w'.drawn ∧ (v'.ownBlock = v.ownBlock ∨ v'.ownBlock = some w.heap.size) := by
  have hb1 : n + m ≤ 140737488355328 := by rw [Nat.mul_add, Nat.mul_one] at hb; omega
  have hb2 : (n + m) * i.bytes ≤ 140737488355328 := by rw [Nat.mul_add] at hb; omega
  have h63 : n + m ≤ maxLen := by unfold maxLen; omega
  obtain ⟨v', w', hrun, ho, hg, _⟩ := run_append_own (P := P) w 0 t ty e i z size i.bytes ht hi hz hsize rfl hzs hsz v n xs hown ad m c news hl hnews h1 h63 hb2 (Nat.zero_le _)
  refine ⟨v', w', hrun, ho, hg, ?_⟩
  subst hsize
  have same : ∀ V W, (Builtin.append_ #[t, t] ty #[v, .slice (some ad) m c]).run P w = .ok V W → w.drawn ≤ W.drawn → (V.ownBlock = v.ownBlock ∨ V.ownBlock = some w.heap.size) → w.drawn ≤ w'.drawn ∧ (v'.ownBlock = v.ownBlock ∨ v'.ownBlock = some w.heap.size) := fun V W h2 h3 h4 => by
    rw [hrun] at h2
    injection h2 with a1 a2
    subst a1 a2
    exact ⟨h3, h4⟩
  rcases hown.2 with ⟨rfl, rfl⟩ | ⟨g, cap, cur, rfl, hbg, hgg, hnc, hcm, hcs, htake⟩
  · by_cases hm : m = 0
    · subst hm
      have hn : news = [] := List.eq_nil_of_length_eq_zero (by simpa using hl)
      subst hn
      refine same (.slice none 0 0) w ?_ (Nat.le_refl _) (.inl rfl)
      simp [Builtin.append_, run_underlying ht, sizeOf, typeInfo, hi, Builtin.lenOf, Builtin.firstCells, loadCells, loadCellsFrom]
    · have hr := run_append_nil (P := P) w t ty e i z ht hi hz ad m c news hl hnews (by omega) (by omega) (by have hb := hb2; simp only [Nat.zero_add] at hb; omega)
      exact same _ _ hr (Nat.le_succ _) (.inr rfl)
  · by_cases hroom : n + m ≤ cap
    · have hfit : n * i.size + news.length ≤ cur.size := by rw [hl, hcs, ← Nat.add_mul]; exact Nat.mul_le_mul_right _ hroom
      have hr := run_append_room (P := P) w t ty e i ht hi g n cap cur hgg ad m c news hl hnews h1 hroom hfit
      exact same _ _ hr (Nat.le_refl _) (.inl rfl)
    · have holds : ∀ j u, xs[j]? = some u → w.cell? ((⟨g, 0, none⟩ : Addr).add j) = some u := hown.cells (g := g) rfl
      have hr := run_append_grow (P := P) w t ty e i z ht hi hz ⟨g, 0, none⟩ n cap xs hown.1 holds ad m c news hl hnews (by omega) (by omega) (growslice_fits (by omega) hb2)
      exact same _ _ hr (Nat.le_succ _) (.inr rfl)

theorem offS_ok {E E' : Env} {p : Nat → Bool} (hm : ∀ b j v, E.m b j = some v → E'.m b j = some v) (hβ : ∀ i b, p i = true → E.β i = some b → E'.β i = some b) (hτ : ∀ k v, p k = true → E.τ k = some v → E'.τ k = some v) {s : Slot} {v : Value} (h : SlotRep E s v) : SlotRep E' (offS p s) v := by
  have vr : ∀ (t : Ty) (x : t.den) (v : Value), t.on p = true → VRep E t x v → VRep E' t x v := fun t x v ht ⟨cs, r, e⟩ => ⟨cs, rep_on hm hβ hτ t x cs ht r, e⟩
  have vs : ∀ (t : Ty) (x : t.den) (vs : List Value), t.on p = true → vals E t x vs → vals E' t x vs := by
    intro t
    induction t with
    | unit => intro x vs _ h; exact h
    | pair a b _ ihb =>
      intro x vs ht ⟨v, vs', e, h1, h2⟩
      simp only [Ty.on, Bool.and_eq_true] at ht
      exact ⟨v, vs', e, vr a _ _ ht.1 h1, ihb _ _ ht.2 h2⟩
    | _ => intro x vs _ h; exact h.elim
  cases s with
  | junk => trivial
  | undef => exact h
  | v x => simp only [offS]; split
           · rename_i hx; exact vr _ _ _ hx h
           · trivial
  | tup t x => simp only [offS]; split
               · rename_i hx; obtain ⟨l, hl, e⟩ := h; exact ⟨l, vs _ _ _ hx hl, e⟩
               · trivial
theorem offB_one {p : Nat → Bool} {o : Option Bx} {tv : TV} (h : offB p o = some (.one tv)) : o = some (.one tv) ∧ tv.t.on p = true := by
  unfold offB at h
  split at h
  · split at h
    · rename_i hx; simp only [Option.some.injEq, Bx.one.injEq] at h; subst h; exact ⟨rfl, hx⟩
    · cases h
  · split at h
    · simp at h
    · cases h
  · cases h
theorem offB_arr {p : Nat → Bool} {o : Option Bx} {e : TypeId} {t : Ty} {xs : List t.den} (h : offB p o = some (.arr e t xs)) : o = some (.arr e t xs) ∧ t.on p = true := by
  unfold offB at h
  split at h
  · split at h
    · simp at h
    · cases h
  · split at h
    · rename_i hx; simp only [Option.some.injEq] at h; rw [h]; simp only [Bx.arr.injEq] at h; obtain ⟨_, rfl, _⟩ := h; exact ⟨rfl, hx⟩
    · cases h
  · cases h

/-- Behind an append: the array is longer; what spoke of it is laid aside. -/
theorem GR.app {tmps : Array Value} {k : Nat} {e : TypeId} {t : Ty} {xs ys : List t.den} {v v' : Value} {l news : List Value} {w' : World} (h : GR C m0 w0 E st tmps w) (hk : k < st.b.length) (hon : t.on (fun i => i != k) = true)
    (hβ : E.β k = v.ownBlock) (hmv : ∀ g j, v.ownBlock = some g → E.m g j = none) (hr : reps E t xs l) (hn : reps E t ys news)
    (ho : w'.ownsRow 0 e t.size v' (xs.length + ys.length) (l ++ news)) (hg : w.grownBy w' v.ownBlock) (hd : w.drawn ≤ w'.drawn) (hv : v'.ownBlock = v.ownBlock ∨ v'.ownBlock = some w.heap.size) :
    ∃ E', E'.τ k = some v' ∧ GR C m0 w0 E' ⟨(st.off fun i => i != k).t, (st.off fun i => i != k).b.set k (some (.arr e t (xs ++ ys)))⟩ tmps w' := by
  let E' : Env := { E with β := fun i => if i = k then v'.ownBlock else E.β i, τ := fun i => if i = k then some v' else E.τ i }
  have b1 : E'.β k = v'.ownBlock := by show (if _ then _ else _) = _; rw [if_pos rfl]
  have t1 : E'.τ k = some v' := by show (if _ then _ else _) = _; rw [if_pos rfl]
  have b2 : ∀ i, i ≠ k → E'.β i = E.β i := fun i hi => by show (if _ then _ else _) = _; rw [if_neg hi]
  have t2 : ∀ i, i ≠ k → E'.τ i = E.τ i := fun i hi => by show (if _ then _ else _) = _; rw [if_neg hi]
  have hm : ∀ b j u, E.m b j = some u → E'.m b j = some u := fun _ _ _ q => q
  have hβ' : ∀ i b, (i != k) = true → E.β i = some b → E'.β i = some b := fun i b hi q => by rw [b2 i (by simpa using hi)]; exact q
  have hτ' : ∀ i u, (i != k) = true → E.τ i = some u → E'.τ i = some u := fun i u hi q => by rw [t2 i (by simpa using hi)]; exact q
  have old : ∀ j b, j ≠ k → E.β j = some b → w'.heap[b]? = w.heap[b]? := fun j b hj hb => hg.block b (h.lt j b hb) (fun q => hj (h.fr.inj j k b hb (hβ.trans q.symm)))
  have newb : ∀ g j, v'.ownBlock = some g → E.m g j = none := fun g j q => by
    rcases hv with q' | q'
    · exact hmv g j (q'.symm.trans q)
    · obtain rfl : g = w.heap.size := Option.some.inj (q.symm.trans q')
      cases hmm : E.m w.heap.size j with
      | none => rfl
      | some u => exact absurd (cell_lt (h.fr.inv _ _ _ hmm)) (Nat.lt_irrefl _)
  have hlen : (st.off fun i => i != k).b.length = st.b.length := by simp [St.off]
  have hc : ChgX (fun b => v.ownBlock = some b) C E.m w E.m w' := ⟨hg.os, hg.tape, hg.output, fun _ => hd, hg.size, fun b hb hx => hg.block b hb (fun q => hx q.symm), fun _ _ _ => rfl, fun _ _ _ q => q⟩
  have at_ : ∀ j (c : Bx), ((st.off fun i => i != k).b.set k (some (.arr e t (xs ++ ys))))[j]? = some (some c) → (j = k ∧ c = .arr e t (xs ++ ys)) ∨ (j ≠ k ∧ ∃ o, st.b[j]? = some o ∧ offB (fun i => i != k) o = some c) := fun j c hc => by
    rw [List.getElem?_set] at hc
    by_cases hij : k = j
    · rw [if_pos hij] at hc
      split at hc
      · simp only [Option.some.injEq] at hc; exact .inl ⟨hij.symm, hc.symm⟩
      · cases hc
    · rw [if_neg hij] at hc
      have hc' : (st.b.map (offB fun i => i != k))[j]? = some (some c) := hc
      rw [List.getElem?_map, Option.map_eq_some_iff] at hc'
      exact .inr ⟨fun q => hij q.symm, hc'⟩
  refine ⟨E', t1, ⟨by show (st.t.map _).length = _; rw [List.length_map]; exact h.fr.len, fun i s _ hs => ?_, fun j tv hj => ?_, fun j e2 u zs hj => ?_, fun i j b hbi hbj => ?_, chg_inv hc (fun b j u hu q => by rw [hmv b j q] at hu; cases hu) h.fr.inv⟩, h.chg.trans hc (fun b hb q => by rcases h.own k b (hβ.trans q) with q | q; omega; exact q), fun i b hb => ?_, fun i b hb => ?_, fun i hi => ?_, h.gl, h.fx.mono (by simp [St.off]) fun j tv _ ht => by
    rcases at_ j _ ht with ⟨_, q⟩ | ⟨hjk, o, ho1, ho2⟩
    · cases q
    · obtain ⟨rfl, _⟩ := offB_one ho2
      exact ⟨⟨tv, ho1⟩, b2 j hjk⟩⟩
  · have hs' : (st.t.map (offS fun i => i != k))[i]? = some s := hs
    rw [List.getElem?_map, Option.map_eq_some_iff] at hs'
    obtain ⟨s0, h0, rfl⟩ := hs'
    exact offS_ok hm hβ' hτ' (h.fr.slots i s0 trivial h0)
  · rcases at_ j _ hj with ⟨_, q⟩ | ⟨hjk, o, ho1, ho2⟩
    · cases q
    · obtain ⟨rfl, hto⟩ := offB_one ho2
      obtain ⟨blk, cs, e3, hb, hh, r, hmn⟩ := h.fr.boxes j tv ho1
      exact ⟨blk, cs, e3, by rw [b2 j hjk]; exact hb, by rw [old j blk hjk hb]; exact hh, rep_on hm hβ' hτ' _ _ _ hto r, hmn⟩
  · rcases at_ j _ hj with ⟨rfl, q⟩ | ⟨hjk, o, ho1, ho2⟩
    · simp only [Bx.arr.injEq] at q
      obtain ⟨rfl, rfl, q⟩ := q
      obtain rfl := eq_of_heq q
      exact ⟨v', _, t1, by rw [List.length_append]; exact ho, reps_on hm hβ' hτ' hon _ _ (reps_append _ _ _ _ hr hn), b1, newb⟩
    · obtain ⟨rfl, hto⟩ := offB_arr ho2
      obtain ⟨v2, l2, q1, q2, q3, q4, q5⟩ := h.fr.arrs j e2 u zs ho1
      exact ⟨v2, l2, by rw [t2 j hjk]; exact q1, ownsRow_heap q2 (fun g hg2 => old j g hjk (q4.trans hg2)), reps_on hm hβ' hτ' hto _ _ q3, by rw [b2 j hjk]; exact q4, q5⟩
  · have key : ∀ j b, j ≠ k → E'.β k = some b → E.β j = some b → False := fun j b hjk q1 q2 => by
      rw [b1] at q1
      rcases hv with q | q
      · exact hjk (h.fr.inj j k b q2 (hβ.trans (q.symm.trans q1)))
      · obtain rfl : w.heap.size = b := Option.some.inj (q.symm.trans q1)
        exact absurd (h.lt j _ q2) (Nat.lt_irrefl _)
    by_cases i1 : i = k <;> by_cases j1 : j = k
    · omega
    · rw [i1] at hbi; rw [b2 j j1] at hbj; exact (key j b j1 hbi hbj).elim
    · rw [j1] at hbj; rw [b2 i i1] at hbi; exact (key i b i1 hbj hbi).elim
    · rw [b2 i i1] at hbi; rw [b2 j j1] at hbj; exact h.fr.inj i j b hbi hbj
  · by_cases i1 : i = k
    · rw [i1, b1] at hb
      rcases hv with q | q
      · exact h.own k b (hβ.trans (q.symm.trans hb))
      · obtain rfl : w.heap.size = b := Option.some.inj (q.symm.trans hb)
        exact .inl h.chg.size
    · rw [b2 i i1] at hb; exact h.own i b hb
  · by_cases i1 : i = k
    · rw [i1, b1] at hb; exact (ho.lt b hb).2
    · rw [b2 i i1] at hb; exact Nat.lt_of_lt_of_le (h.lt i b hb) hg.size
  · have hi2 : ((st.off fun i => i != k).b.set k (some (.arr e t (xs ++ ys)))).length ≤ i := hi
    rw [List.length_set, hlen] at hi2
    have hne : i ≠ k := by omega
    exact ⟨by rw [b2 i hne]; exact (h.top i hi2).1, by rw [t2 i hne]; exact (h.top i hi2).2⟩

variable {R : Type}
theorem list_val {t : Ty} {ys : List t.den} {v : Value} (hv : VRep E (.list t) ys v) : (v = .slice none 0 0 ∧ ys = []) ∨ ∃ (ad : Addr) (cap : Nat) (l : List Value), v = .slice (some ad) ys.length cap ∧ reps E t ys l ∧ ∀ j u, l[j]? = some u → ∃ q, ad.add j = ⟨ad.block, q, none⟩ ∧ E.m ad.block q = some u := by
  obtain ⟨A, cap, rfl, hn, hc, hr⟩ := vrep_list hv
  cases A with
  | none =>
    have h0 := hn rfl
    have hl : ys.length = 0 := by omega
    have : ys = [] := List.eq_nil_of_length_eq_zero hl
    subst this
    subst h0
    exact .inl ⟨rfl, rfl⟩
  | some ad =>
    refine .inr ⟨ad, cap, ?_⟩
    obtain ⟨l, hl, hm⟩ := rows_cells (E := E) (t := t) (b := ad.block) ys ad.off (fun i x hx => by
      obtain ⟨a, c, ha, _, r, w⟩ := hr i x hx
      obtain rfl := Option.some.inj ha
      exact ⟨c, r, w⟩)
    refine ⟨l, rfl, hl, fun j u hj => ⟨ad.off + j, ?_, hm j u hj⟩⟩
    have hsp : ad.spot = none := by
      cases ys with
      | nil => rw [show l = [] from hl] at hj; simp at hj
      | cons y ys =>
        obtain ⟨a, c, ha, hs, _⟩ := hr 0 y rfl
        obtain rfl := Option.some.inj ha
        exact hs
    unfold Addr.add; split
    · rename_i hz; obtain ⟨b', o', s'⟩ := ad; simp only at hsp; subst hsp; simp [hz]
    · rfl

theorem appK_ok {d : Option Tmp} {e : TypeId} {k : Nat} {t : Ty} {ys : List t.den} {K : St → Option R} {r : R} {ty : TypeId} (hu : P.underlying ty = some (.slice e)) (h : appK P st d e k t ys K = some r) :
    ∃ st', K st' = some r ∧ ∀ (m0 : Base) (w0 : World) (E : Env) (a : Act) (w : World) (v vy : Value) (ty' : TypeId), GR C m0 w0 E st a.tmps w → E.τ k = some v → VRep E (.list t) ys vy →
      ∃ v' w' E', (Builtin.append_ #[ty, ty] ty' #[v, vy]).run P w = .ok v' w' ∧ GR C m0 w0 E' st' (a.put d v').tmps w' := by
  unfold appK at h
  split at h
  · rename_i inf e' t' xs hinf hb
    split at h
    · rename_i z xs2 hz hcast
      split at h
      · rename_i hc
        obtain ⟨rfl, hon, hs1, hs2, hs3⟩ := hc
        rcases bif_some h with ⟨hbd, h⟩ | ⟨_, h⟩
        · have hbd' : (xs2.length + ys.length) * (inf.bytes + 1) ≤ 140737488355328 := by simpa using hbd
          refine ⟨_, h, fun m0 w0 E a w v vy ty' hg hτ hv => ?_⟩
          have hlist : (⟨.list t', xs⟩ : TV) = ⟨.list t, xs2⟩ := by
            unfold castTV at hcast
            split at hcast
            · rename_i hh
              simp only [Ty.list.injEq] at hh
              subst hh
              simp only [Option.some.injEq] at hcast
              rw [hcast]
            · simp [castU] at hcast
          simp only [TV.mk.injEq, Ty.list.injEq] at hlist
          obtain ⟨rfl, hx⟩ := hlist
          obtain rfl := eq_of_heq hx
          obtain ⟨v2, l, hτ2, ho, hr, hβ, hm⟩ := hg.fr.arrs k e' t' xs hb
          obtain rfl : v = v2 := Option.some.inj (hτ.symm.trans hτ2)
          have hk : k < st.b.length := (List.getElem?_eq_some_iff.1 hb).1
          have fin : ∀ v' w' news, reps E t' ys news → (Builtin.append_ #[ty, ty] ty' #[v, vy]).run P w = .ok v' w' → w'.ownsRow 0 e' t'.size v' (xs.length + ys.length) (l ++ news) → w.grownBy w' v.ownBlock → w.drawn ≤ w'.drawn → (v'.ownBlock = v.ownBlock ∨ v'.ownBlock = some w.heap.size) →
              ∃ v' w' E', (Builtin.append_ #[ty, ty] ty' #[v, vy]).run P w = .ok v' w' ∧ GR C m0 w0 E' ((⟨(st.off fun i => i != k).t, (st.off fun i => i != k).b.set k (some (.arr e' t' (xs ++ ys)))⟩ : St).put d (.v ⟨.sl k t', ()⟩)) (a.put d v').tmps w' := fun v' w' news hn hrun q1 q2 q3 q4 => by
            obtain ⟨E', ht', hg'⟩ := hg.app hk hon hβ hm hr hn q1 q2 q3 q4
            refine ⟨v', w', E', hrun, hg'.putS d ?_ a rfl⟩
            rcases q1.2 with ⟨rfl, _⟩ | ⟨g, cap, cur, rfl, _⟩
            · exact ⟨[_], ⟨none, 0, 0, ht', rfl⟩, rfl⟩
            · exact ⟨[_], ⟨_, _, _, ht', rfl⟩, rfl⟩
          rcases list_val hv with ⟨rfl, rfl⟩ | ⟨ad, cap, news, rfl, hnr, hnc⟩
          · have hrun := run_append_owned_none (P := P) w 0 ty ty' e' inf t'.size hu hinf v _ l ho
            exact fin v w [] rfl hrun (by simpa using ho) ⟨rfl, rfl, rfl, Nat.le_refl _, fun _ _ _ => rfl⟩ (Nat.le_refl _) (.inl rfl)
          · obtain ⟨v', w', hrun, q1, q2, q3, q4⟩ := app_run (P := P) (w := w) (ty := ty') (m := ys.length) (c := cap) (ad := ad) hu hinf hz hs1 (hs2.trans hs1) (hs1 ▸ hs3) ho (reps_length _ _ hnr) (fun j u hj => by
              obtain ⟨q, e1, e2⟩ := hnc j u hj
              rw [e1]; exact hg.fr.inv _ _ _ e2) (reps_oneCell _ _ hnr) hbd'
            exact fin v' w' news hnr hrun q1 q2 q3 q4
        · cases h
      · cases h
    · cases h
  · cases h

/-- Nothing yet, to be appended to. -/
theorem GR.nil {tmps : Array Value} (h : GR C m0 w0 E st tmps w) (e : TypeId) (t : Ty) : ∃ E', E.le E' ∧ E'.τ st.b.length = some (.slice none 0 0) ∧ GR C m0 w0 E' (st.fresh e t) tmps w := by
  obtain ⟨E', hle, _, ht, hg⟩ := h.new (bx := .arr e t []) (nβ := none) (nτ := some (.slice none 0 0)) (w' := w) (.refl _ _) (fun b hb => by cases hb) (fun E' _ _ hb ht _ =>
    ⟨_, [], ht, World.ownsRow_nil w 0 e t.size, rfl, hb, fun g j q => by cases q⟩)
  exact ⟨E', hle, ht, hg⟩

theorem appendK_ok {o : Oper} {c : Call} {K : St → Option R} {r : R} (ho : o.op = .call c) (hcb : c.callee = .builtin .append) (h : appendK P st o.dst c K = some r) : ∃ st', K st' = some r ∧ StepOK P C o st st' := by
  unfold appendK at h
  split at h
  · rename_i s x ty ty' hargs htys
    split at h
    · rename_i hty
      subst hty
      split at h
      · rename_i e hu
        have ha : ∀ a : Act, c.args.map a.eval = #[a.eval s, a.eval x] := fun a => by
          apply Array.ext'; simp [hargs]
        have hty' : c.argTypes = #[ty, ty] := by apply Array.ext'; simp [htys]
        have hex : ∀ (a : Act) (w w' : World) (v' : Value), (Builtin.append_ #[ty, ty] o.type #[a.eval s, a.eval x]).run P w = .ok v' w' → (execOp a.eval o).run P w = .ok (.value v') w' := fun a w w' v' hrun => by
          unfold execOp
          simp only [ho, resolve, hcb, ha, hty', Sem.run_bind, Sem.run_pure, Result.andThen_ok, invoke, builtin, hrun]
        split at h
        · rename_i k t y tx hs hx
          split at h
          · rename_i ys hys
            obtain ⟨st', hst, hok⟩ := appK_ok (C := C) hu h
            refine ⟨st', hst, fun m0 w0 E a w Kc Q hg hk => ?_⟩
            have hsv := opdN_ok hg.fr (fun _ _ => trivial) hs
            obtain ⟨A, n, cap, hv, hτ⟩ := vrep_sl hsv
            obtain ⟨v', w', E', hrun, hg'⟩ := hok m0 w0 E a w (a.eval s) (a.eval x) o.type hg (by rw [hv]; exact hτ) (castTV_ok hys (opdN_ok hg.fr (fun _ _ => trivial) hx))
            unfold Oper.wp
            rw [hex a w w' v' hrun]
            exact hk v' E' w' hg'
          · cases h
        · rename_i t y tx hs hx
          split at h
          · rename_i ys hys
            obtain ⟨st', hst, hok⟩ := appK_ok (C := C) hu h
            refine ⟨st', hst, fun m0 w0 E a w Kc Q hg hk => ?_⟩
            have hsv := vrep_nl (opdN_ok hg.fr (fun _ _ => trivial) hs)
            obtain ⟨E1, hle, hτ, hg1⟩ := hg.nil e t
            have hxv := (castTV_ok hys (opdN_ok hg.fr (fun _ _ => trivial) hx)).mono hle
            obtain ⟨v', w', E', hrun, hg'⟩ := hok m0 w0 E1 a w (a.eval s) (a.eval x) o.type hg1 (by rw [hsv]; exact hτ) hxv
            unfold Oper.wp
            rw [hex a w w' v' hrun]
            exact hk v' E' w' hg'
          · cases h
        · cases h
      · cases h
    · cases h
  · cases h

theorem chain_reps {E : Env} {t : Ty} : ∀ (n : Nat) (x : (many n t).den) (cs : List Value), rep E (many n t) x cs → reps E t (chain n t x) cs ∧ (chain n t x).length = n
  | 0, _, cs, r => ⟨r, rfl⟩
  | n + 1, x, _, ⟨c1, c2, e, r1, r2⟩ => by
    obtain ⟨h1, h2⟩ := chain_reps n x.2 c2 r2
    exact ⟨⟨c1, c2, e, r1, h1⟩, by show (chain n t x.2).length + 1 = _; rw [h2]⟩
theorem litK_ok {ty : TypeId} {len : Nat} {parts : Array (Nat × Operand)} {o : Oper} {K : St → Option R} {r : R} (ho : o.op = .buildSlice ty len parts) (h : litK P st o.dst ty len parts.toList K = some r) : ∃ st', K st' = some r ∧ StepOK P C o st st' := by
  unfold litK at h
  split at h
  · rename_i e hu
    split at h
    · rename_i t inf ht hinf
      split at h
      · rename_i hs
        split at h
        · rename_i z hz
          split at h
          · rename_i x0 hx0
            split at h
            · rename_i x hx
              refine ⟨_, h, fun m0 w0 E a w Kc Q hg hk => ?_⟩
              have r0 : rep E (many len t) x0 (if len * inf.size = 0 then [] else ((Array.range (len * inf.size)).map (z.cells[· % z.cells.size]!)).toList) := by
                obtain ⟨c, e', q⟩ := ofCells_ok E _ _ _ _ hx0
                rw [List.append_nil] at e'
                rw [e']; exact q
              obtain ⟨cs', hr', hfill⟩ := setParts_ok (place' := fun i => some (i * inf.size, inf.size)) hg.fr (fun i o n u hpl => by
                simp only [Option.some.injEq, Prod.mk.injEq] at hpl
                obtain ⟨rfl, rfl, _⟩ := hpl
                rfl) parts.toList x0 x _ (fun _ _ _ _ => trivial) hx r0
              obtain ⟨hreps, hcl⟩ := chain_reps len x cs' hr'
              have hsz := reps_length _ _ hreps
              have hrun : (Instr.buildSlice ty len (parts.map fun (i, x) => (i, a.eval x))).run P w = .ok (.slice (some ⟨w.heap.size, 0, none⟩) len len) { w with heap := w.heap.push (.cells cs'.toArray e) } := by
                unfold Instr.buildSlice
                simp only [Sem.run_bind, run_underlying hu, Result.andThen_ok, run_sizeOf' hinf]
                rw [if_neg hs.2.2]
                by_cases h0 : len * inf.size = 0
                · rw [if_pos h0] at hfill ⊢
                  have hinit : (Array.range (len * inf.size)).map ((#[] : Array Value)[· % (#[] : Array Value).size]!) = ([] : List Value).toArray := by
                    rw [h0]; simp
                  simp only [Sem.run_bind, Sem.run_pure, Result.andThen_ok]
                  rw [hinit, Array.toList_map, hfill]
                  simp only [newRow, Sem.run_bind, run_newObj, Sem.run_pure, Result.andThen_ok]
                · rw [if_neg h0] at hfill ⊢
                  rw [Array.toArray_toList] at hfill
                  simp only [Sem.run_bind, run_zeroValue hinf hz, Sem.run_pure, Result.andThen_ok]
                  rw [Array.toList_map, hfill]
                  simp only [newRow, Sem.run_bind, run_newObj, Sem.run_pure, Result.andThen_ok]
              have hex : (execOp a.eval o).run P w = .ok (.value (.slice (some ⟨w.heap.size, 0, none⟩) len len)) { w with heap := w.heap.push (.cells cs'.toArray e) } := by
                unfold execOp
                simp only [ho]
                rw [Sem.run_bind, hrun]; rfl
              have hlen : len ≤ maxLen := by
                have h1 := hs.2.2
                have h2 : len * 1 ≤ len * inf.size := Nat.mul_le_mul_left _ hs.2.1
                unfold maxLen; omega
              obtain ⟨E', hle, hb, hτ, hg'⟩ := hg.new (bx := .arr e t (chain len t x)) (nβ := some w.heap.size) (nτ := some (.slice (some ⟨w.heap.size, 0, none⟩) len len)) (push_chg (.cells cs'.toArray e)) (fun b hb => by obtain rfl := Option.some.inj hb; simp) (fun E' hle hm hb ht hnone =>
                ⟨_, cs', ht, by
                  rw [hcl]
                  have := World.ownsRow_lit (base := 0) (e := e) (size := t.size) w cs'.toArray len (Nat.zero_le _) hlen (by rw [List.size_toArray, hsz, hcl])
                  exact this, reps_mono hle _ _ hreps, hb, fun g j q => by obtain rfl := Option.some.inj q; rw [hm]; exact hnone j⟩)
              unfold Oper.wp
              rw [hex]
              have := hg'.putS o.dst (s := .v ⟨.sl st.b.length t, ()⟩) (v := .slice (some ⟨w.heap.size, 0, none⟩) len len) ⟨[_], ⟨_, _, _, hτ, rfl⟩, rfl⟩ a rfl
              rw [put_b] at this
              exact hk _ E' _ this
            · cases h
          · cases h
        · cases h
      · cases h
    · cases h
  · cases h

/-- Behind a call that works in place. -/
theorem GR.inpl {tmps : Array Value} {k : Nat} {e : TypeId} {t : Ty} {xs ys : List t.den} {v : Value} {l' : List Value} {m' : Mem} {w' : World} (h : GR C m0 w0 E st tmps w) (hb : st.b[k]? = some (some (.arr e t xs))) (hτ : E.τ k = some v) (hβ : E.β k = v.ownBlock)
    (hmv : ∀ g j, v.ownBlock = some g → E.m g j = none) (hc : ChgX (fun b => v.ownBlock = some b) C E.m w m' w') (hi : Inv m' w') (ho : w'.ownsRow 0 e t.size v ys.length l') (hr : reps { E with m := m' } t ys l') (hnm : ∀ g j, v.ownBlock = some g → m' g j = none) :
    GR C m0 w0 { E with m := m' } ⟨st.t, st.b.set k (some (.arr e t ys))⟩ tmps w' := by
  have hle : E.le { E with m := m' } := Env.le_m hc.sub
  have at_ : ∀ j (c : Bx), (st.b.set k (some (.arr e t ys)))[j]? = some (some c) → (j = k ∧ c = .arr e t ys) ∨ (j ≠ k ∧ st.b[j]? = some (some c)) := fun j c hc => by
    rw [List.getElem?_set] at hc
    by_cases hij : k = j
    · rw [if_pos hij] at hc
      split at hc
      · simp only [Option.some.injEq] at hc; exact .inl ⟨hij.symm, hc.symm⟩
      · cases hc
    · rw [if_neg hij] at hc; exact .inr ⟨fun q => hij q.symm, hc⟩
  have old : ∀ j b, j ≠ k → E.β j = some b → w'.heap[b]? = w.heap[b]? ∧ m' b = E.m b := fun j b hj hbj => ⟨hc.heap b (h.lt j b hbj) (fun q => hj (h.fr.inj j k b hbj (hβ.trans q))), hc.mem b (h.lt j b hbj) (fun q => hj (h.fr.inj j k b hbj (hβ.trans q)))⟩
  refine ⟨⟨h.fr.len, fun i s hx hs => (h.fr.slots i s hx hs).mono hle, fun j tv hj => ?_, fun j e2 u zs hj => ?_, h.fr.inj, hi⟩, h.chg.trans hc (fun b hb' q => by rcases h.own k b (hβ.trans q) with q | q; omega; exact q), h.own, fun i b hb => Nat.lt_of_lt_of_le (h.lt i b hb) hc.size, fun i hi' => h.top i (by simpa using hi'), C.mono hle.m h.gl, h.fx.mono (by simp) fun j tv _ ht => by
    rcases at_ j _ ht with ⟨_, q⟩ | ⟨hjk, h1⟩
    · cases q
    · exact ⟨⟨tv, h1⟩, rfl⟩⟩
  · rcases at_ j _ hj with ⟨_, q⟩ | ⟨hjk, h1⟩
    · cases q
    · exact (h.fr.boxes j tv h1).keep hle (old j · hjk)
  · rcases at_ j _ hj with ⟨rfl, q⟩ | ⟨hjk, h1⟩
    · simp only [Bx.arr.injEq] at q
      obtain ⟨rfl, rfl, q⟩ := q
      obtain rfl := eq_of_heq q
      exact ⟨v, l', hτ, ho, hr, hβ, fun g i q => hnm g i q⟩
    · exact (h.fr.arrs j e2 u zs h1).keep hle rfl (old j · hjk)
theorem inplK_ok {sp : Specs} (hsp : ∀ g s, sp g = some s → SoundX P C g s) {n : Nat} {o : Oper} {c : Call} {f : Operand} {K : St → Option R} {r : R} (hoc : o.op = .call c) (hcf : c.callee = .value f) (h : inplK sp n st o.dst f c.args.toList K = some (some r)) : ∃ st', K st' = some r ∧ StepOK P C o st st' := by
  unfold inplK at h
  split at h
  · rename_i g u x rest hg hargs
    split at h
    · rename_i s hs
      have h := Option.some.inj h
      split at h
      · rename_i k t y0 y hx hy
        split at h
        · rename_i e t' xs hb
          split at h
          · rename_i xs2 hcast
            split at h
            · rename_i hcc
              obtain ⟨rfl, rfl, hpos⟩ := hcc
              obtain ⟨ys, hys, h⟩ := bind_some h
              refine ⟨_, h, fun m0 w0 E a w Kc Q hg' hk => ?_⟩
              have hlist : (⟨.list t', xs⟩ : TV) = ⟨.list s.t, xs2⟩ := by
                unfold castTV at hcast
                split at hcast
                · rename_i hh
                  simp only [Ty.list.injEq] at hh
                  subst hh
                  simp only [Option.some.injEq] at hcast
                  rw [hcast]
                · simp [castU] at hcast
              simp only [TV.mk.injEq, Ty.list.injEq] at hlist
              obtain ⟨rfl, hxx⟩ := hlist
              obtain rfl := eq_of_heq hxx
              have hso : SoundI P C g s := hsp g (.i s) hs
              obtain ⟨bs, hbs, hfv⟩ := vrep_fn (opd_ok hg'.fr (fun _ _ => trivial) hg)
              obtain rfl : bs = [] := hbs
              obtain ⟨A, m, cap, hxv, hτ⟩ := vrep_sl (opd_ok hg'.fr (fun _ _ => trivial) hx)
              obtain ⟨v, l, hτ2, ho, hr, hβ, hm⟩ := hg'.fr.arrs k s.e s.t xs hb
              have hv : a.eval x = v := by rw [hxv]; exact Option.some.inj (hτ.symm.trans hτ2)
              have hvals := argsT_ok hg'.fr s.as (rest.map .inl) y _ (fun _ _ _ _ => trivial) (srcs_inl (E := E) (a := a) rest) hy
              unfold Oper.wp
              have hex : (execOp a.eval o).run P w = .ok (.enter g (v :: rest.map a.eval).toArray) w := by
                unfold execOp
                simp only [hoc, resolve, hcf, hfv, Deferred.ofValue, Sem.run_bind, Sem.run_pure, Result.andThen_ok, invoke]
                have : ((unflat .unit []).take 0).toArray ++ c.args.map a.eval ++ ((unflat .unit []).drop 0).toArray = (v :: rest.map a.eval).toArray := by
                  apply Array.ext'; simp [hargs, hv, unflat]
                rw [this]
                exact hso.enter _ _
              rw [hex]
              refine (hso.calls n xs y ys hys E.m E.β E.τ w v l _ hg'.fr.inv hg'.gl hvals ho hr hm).mono ?_
              rintro e' w' ⟨m', l', rfl, hc, hi, ho', hr', hnm⟩
              exact hk _ _ w' ((hg'.inpl hb hτ2 hβ hm hc hi ho' hr' hnm).putS o.dst (s := .junk) (v := .tuple #[]) trivial a rfl)
            · cases h
          · cases h
        · cases h
      · cases h
    · cases h
  · cases h

/-- Behind a call whose result is an array of the caller's own. -/
theorem ownK_ok {sp : Specs} (hsp : ∀ g s, sp g = some s → SoundX P C g s) {n : Nat} {o : Oper} {c : Call} {f : Operand} {K : St → Option R} {r : R} (hoc : o.op = .call c) (hcf : c.callee = .value f) (h : ownK sp n st o.dst f c.args.toList K = some (some r)) : ∃ st', K st' = some r ∧ StepOK P C o st st' := by
  unfold ownK at h
  split at h
  · rename_i g nf b0 u hg
    split at h
    · rename_i s hs
      have h := Option.some.inj h
      split at h
      · rename_i y hy
        obtain ⟨z, hz, h⟩ := bind_some h
        refine ⟨_, h, fun m0 w0 E a w Kc Q hg' hk => ?_⟩
        have hso : SoundO P C g s := hsp g (.o s) hs
        obtain ⟨bs, hbs, hfv⟩ := vrep_fn (opd_ok hg'.fr (fun _ _ => trivial) hg)
        have hcs := comps_ok (a := a) b0 u bs hbs
        obtain ⟨ht1, ht2⟩ := srcs_take nf _ _ hcs
        have hsrc := srcs_append _ _ _ _ (srcs_append _ _ _ _ ht1 (srcs_inl (E := E) (a := a) c.args.toList)) ht2
        have hvals := argsT_ok hg'.fr s.ps _ y _ (fun _ _ _ _ => trivial) hsrc hy
        unfold Oper.wp
        have hex : (execOp a.eval o).run P w = .ok (.enter g ((unflat b0 bs).take nf ++ c.args.toList.map a.eval ++ (unflat b0 bs).drop nf).toArray) w := by
          unfold execOp
          simp only [hoc, resolve, hcf, hfv, Deferred.ofValue, Sem.run_bind, Sem.run_pure, Result.andThen_ok, invoke]
          have : ((unflat b0 bs).take nf).toArray ++ c.args.map a.eval ++ ((unflat b0 bs).drop nf).toArray = ((unflat b0 bs).take nf ++ c.args.toList.map a.eval ++ (unflat b0 bs).drop nf).toArray := by
            apply Array.ext'; simp
          rw [this]
          exact hso.enter _ _
        rw [hex]
        refine (hso.calls n y z hz E.m E.β E.τ w _ hg'.fr.inv hg'.gl hvals).mono ?_
        rintro e' w' ⟨v, vs', l, m', rfl, hc, hi, ho, hr, hvs, hown⟩
        obtain ⟨E', hle, hβ, hτ, hgn⟩ := hg'.newG (bx := .arr s.e s.t z.1) (nβ := v.ownBlock) (nτ := some v) hc hi (fun b hb => ⟨(hown b hb).1, (ho.lt b hb).2⟩) (fun E' hle hm hβ hτ =>
          ⟨v, l, hτ, ho, reps_mono hle _ _ hr, hβ, fun b j hb => by rw [hm]; exact (hown b hb).2 j⟩)
        have hsv : SlotRep E' (retSlot (.pair (.sl st.b.length s.t) s.rs) ((), z.2)) (retV (v :: vs')) := by
          refine vals_ret (.pair (.sl st.b.length s.t) s.rs) ((), z.2) (v :: vs') ⟨v, vs', rfl, ?_, vals_mono hle _ _ _ hvs⟩
          rcases ho.2 with ⟨rfl, _⟩ | ⟨b, cap, cur, rfl, _⟩
          · exact ⟨[_], ⟨none, 0, 0, hτ, rfl⟩, rfl⟩
          · exact ⟨[_], ⟨_, _, _, hτ, rfl⟩, rfl⟩
        have := hgn.putS o.dst hsv a rfl
        rw [put_b] at this
        exact hk _ E' w' this
      · cases h
    · cases h
  · cases h

/-- A new builder. -/
theorem GR.newB {o : Obj} {e T : TypeId} (ho : o = .cells #[.pointer none, .slice none 0 0] T) (h : GR C m0 w0 E st a.tmps w) (d : Option Tmp) {w' : World} (hw : w' = { w with heap := w.heap.push o }) :
    ∃ E', GR C m0 w0 E' (st.newB d T e) (a.put d (.pointer (some ⟨w.heap.size, 0, none⟩))).tmps w' := by
  obtain ⟨E1, hle, hτ, hg⟩ := h.nil e (.int .u8)
  exact hg.box (o := o) (cs := [.pointer none, .slice none 0 0]) (e := T) (tv := ⟨.bld T (st.fresh e (.int .u8)).b.length st.b.length, ()⟩) ho rfl ⟨none, none, 0, 0, rfl, hτ, .inl rfl⟩ d hw
theorem zeroB_ok {l : List Value} (h : zeroB l = true) : l = [.pointer none, .slice none 0 0] := by
  unfold zeroB at h
  split at h
  · rfl
  · cases h
end
end Go.Proofs.YtedenojeljjnaaaGreatDoorPi

namespace Go.Proofs.YtedenojeljjnaaaGreatDoorPi
open Go

/-! calls to which boxes are handed -/
theorem ren_agg (σ : Nat → Nat) : ∀ t : Ty, (t.ren σ).isAgg = t.isAgg
  | .unit | .bool | .int _ | .str | .pair _ _ | .list _ | .nl _ | .sl _ _ | .ref _ | .opt _ | .ptr _ _ _ | .ep _ _ _ _ | .fn _ _ _ | .bld _ _ _ | .nif | .ifi _ _ => rfl
theorem ren_size (σ : Nat → Nat) : ∀ t : Ty, (t.ren σ).size = t.size
  | .pair a b => by simp [Ty.ren, Ty.size, ren_size σ a, ren_size σ b]
  | .unit | .bool | .int _ | .str | .list _ | .nl _ | .sl _ _ | .ref _ | .opt _ | .ptr _ _ _ | .ep _ _ _ _ | .fn _ _ _ | .bld _ _ _ | .nif | .ifi _ _ => rfl
theorem ren_elt (σ : Nat → Nat) (e : TypeId) : ∀ t : Ty, eltOf (t.ren σ) e = eltOf t e
  | .unit | .bool | .int _ | .str | .pair _ _ | .list _ | .nl _ | .sl _ _ | .ref _ | .opt _ | .ptr _ _ _ | .ep _ _ _ _ | .fn _ _ _ | .bld _ _ _ | .nif | .ifi _ _ => rfl
theorem castTV_elt {tv : TV} {t : Ty} {y : t.den} (h : castTV tv t = some y) (e : TypeId) : eltOf tv.t e = eltOf t e := by
  unfold castTV at h
  split at h
  · rename_i hh; rw [hh]
  · obtain ⟨u, x⟩ := tv
    cases u <;> cases t <;> first | rfl | (simp [castU] at h)
theorem mkV_ren (σ : Nat → Nat) (t : Ty) (cs : List Value) : mkV (t.ren σ) cs = mkV t cs := by unfold mkV; rw [ren_agg]

theorem isA_lt {ks : List (Option TypeId)} {k : Nat} (h : isA ks k = true) : k < ks.length ∧ ∃ e, ks[k]? = some (some e) := by
  unfold isA at h
  split at h
  · rename_i e he; exact ⟨(List.getElem?_eq_some_iff.1 he).1, e, he⟩
  · cases h

theorem rep_unren {E Ec : Env} {σ : Nat → Nat} {ks : List (Option TypeId)} (hm : ∀ b j v, E.m b j = some v → Ec.m b j = some v) (hβ : ∀ i b, i < ks.length → E.β (σ i) = some b → Ec.β i = some b) (hτ : ∀ i v, isA ks i = true → E.τ (σ i) = some v → Ec.τ i = some v) :
    ∀ (t : Ty) (x : (t.ren σ).den) (cs : List Value), t.top ks = true → rep E (t.ren σ) x cs → rep Ec t (unren σ t x) cs
  | .pair a b, x, cs, h, ⟨c1, c2, e, r1, r2⟩ => by
    simp only [Ty.top, Bool.and_eq_true] at h
    exact ⟨c1, c2, e, rep_unren hm hβ hτ a _ _ h.1 r1, rep_unren hm hβ hτ b _ _ h.2 r2⟩
  | .ptr i o t, _, _, h, ⟨b, hb, e⟩ => ⟨b, hβ _ _ (by simpa [Ty.top] using h) hb, e⟩
  | .sl k t, _, _, h, ⟨A, n, cap, ht, e⟩ => ⟨A, n, cap, hτ _ _ h ht, e⟩
  | .nif, _, _, _, r => r
  | .ifi _ _, _, _, _, r => r
  | .bld _ i k, _, _, h, ⟨p, A, n, cap, e, ht, hp⟩ => by
    simp only [Ty.top, Bool.and_eq_true, decide_eq_true_eq] at h
    exact ⟨p, A, n, cap, e, hτ _ _ h.2 ht, hp.imp id fun ⟨b, hb, e⟩ => ⟨b, hβ _ _ h.1 hb, e⟩⟩
  | .unit, _, _, _, r | .bool, _, _, _, r | .int _, _, _, _, r | .str, _, _, _, r => r
  | .list t, x, cs, h, r | .nl t, x, cs, h, r | .ref t, x, cs, h, r | .opt t, x, cs, h, r | .ep _ _ _ _, x, cs, h, r | .fn _ _ _, x, cs, h, r => rep_on (p := fun _ => false) hm (fun _ _ q => by cases q) (fun _ _ q => by cases q) _ x cs h r

theorem rep_renX {E Ec : Env} {σ : Nat → Nat} {ks : List (Option TypeId)} (hm : ∀ b j v, Ec.m b j = some v → E.m b j = some v) (hβ : ∀ i b, i < ks.length → Ec.β i = some b → E.β (σ i) = some b) (hτ : ∀ i v, isA ks i = true → Ec.τ i = some v → E.τ (σ i) = some v) :
    ∀ (t : Ty) (x : t.den) (cs : List Value), t.top ks = true → rep Ec t x cs → rep E (t.ren σ) (renX σ t x) cs
  | .pair a b, x, cs, h, ⟨c1, c2, e, r1, r2⟩ => by
    simp only [Ty.top, Bool.and_eq_true] at h
    exact ⟨c1, c2, e, rep_renX hm hβ hτ a _ _ h.1 r1, rep_renX hm hβ hτ b _ _ h.2 r2⟩
  | .ptr i o t, _, _, h, ⟨b, hb, e⟩ => ⟨b, hβ _ _ (by simpa [Ty.top] using h) hb, e⟩
  | .sl k t, _, _, h, ⟨A, n, cap, ht, e⟩ => ⟨A, n, cap, hτ _ _ h ht, e⟩
  | .nif, _, _, _, r => r
  | .ifi _ _, _, _, _, r => r
  | .bld _ i k, _, _, h, ⟨p, A, n, cap, e, ht, hp⟩ => by
    simp only [Ty.top, Bool.and_eq_true, decide_eq_true_eq] at h
    exact ⟨p, A, n, cap, e, hτ _ _ h.2 ht, hp.imp id fun ⟨b, hb, e⟩ => ⟨b, hβ _ _ h.1 hb, e⟩⟩
  | .unit, _, _, _, r | .bool, _, _, _, r | .int _, _, _, _, r | .str, _, _, _, r => r
  | .list t, x, cs, h, r | .nl t, x, cs, h, r | .ref t, x, cs, h, r | .opt t, x, cs, h, r | .ep _ _ _ _, x, cs, h, r | .fn _ _ _, x, cs, h, r => rep_on (p := fun _ => false) hm (fun _ _ q => by cases q) (fun _ _ q => by cases q) _ x cs h r

theorem vals_unren {E Ec : Env} {σ : Nat → Nat} {ks : List (Option TypeId)} (hm : ∀ b j v, E.m b j = some v → Ec.m b j = some v) (hβ : ∀ i b, i < ks.length → E.β (σ i) = some b → Ec.β i = some b) (hτ : ∀ i v, isA ks i = true → E.τ (σ i) = some v → Ec.τ i = some v) :
    ∀ (t : Ty) (x : (t.ren σ).den) (vs : List Value), t.top ks = true → vals E (t.ren σ) x vs → vals Ec t (unren σ t x) vs
  | .unit, _, _, _, r => r
  | .pair a b, x, _, h, ⟨v, vs', e, ⟨cs, r, hv⟩, r2⟩ => by
    simp only [Ty.top, Bool.and_eq_true] at h
    exact ⟨v, vs', e, ⟨cs, rep_unren hm hβ hτ a _ _ h.1 r, by rw [hv, mkV_ren]⟩, vals_unren hm hβ hτ b _ _ h.2 r2⟩
  | .bool, _, _, _, r | .int _, _, _, _, r | .str, _, _, _, r | .list _, _, _, _, r | .nl _, _, _, _, r | .sl _ _, _, _, _, r | .ref _, _, _, _, r | .opt _, _, _, _, r | .ptr _ _ _, _, _, _, r | .ep _ _ _ _, _, _, _, r | .fn _ _ _, _, _, _, r | .bld _ _ _, _, _, _, r | .nif, _, _, _, r | .ifi _ _, _, _, _, r => r.elim

theorem castTV_rep {E : Env} {tv : TV} {t : Ty} {y : t.den} {cs : List Value} (h : castTV tv t = some y) (r : rep E tv.t tv.x cs) : rep E t y cs := by
  have := (castTV_ok h ⟨cs, r, rfl⟩).cells
  rw [mkV_cells r] at this
  simpa using this
theorem cast_list {t' t : Ty} {xs : List t'.den} {x : List t.den} (h : castTV ⟨.list t', xs⟩ (.list t) = some x) : t' = t ∧ HEq xs x := by
  unfold castTV at h
  split at h
  · rename_i hh
    simp only [Ty.list.injEq] at hh
    subst hh
    simp only [Option.some.injEq] at h
    exact ⟨rfl, heq_of_eq h⟩
  · simp [castU] at h

theorem boxes_kind : ∀ (ks : List (Option TypeId)) (ct : Ty) (c : ct.den) (i : Nat) (bx : Bx), (boxesOf ks ct c)[i]? = some (some bx) → i < ks.length ∧ ((∃ tv, bx = .one tv) ∧ ks[i]? = some none ∨ ∃ e t xs, bx = .arr e t xs ∧ ks[i]? = some (some e))
  | [], ct, c, i, bx, h => by cases ct <;> simp [boxesOf] at h
  | none :: ks, .pair a b, c, 0, bx, h => by
    simp only [boxesOf, List.getElem?_cons_zero, Option.some.injEq] at h
    subst h
    exact ⟨by simp, .inl ⟨⟨_, rfl⟩, rfl⟩⟩
  | none :: ks, .pair a b, c, i + 1, bx, h => by
    simp only [boxesOf, List.getElem?_cons_succ] at h
    obtain ⟨h1, h2⟩ := boxes_kind ks b c.2 i bx h
    exact ⟨by simpa using h1, by simpa using h2⟩
  | some e :: ks, .pair (.list t) b, c, 0, bx, h => by
    simp only [boxesOf, List.getElem?_cons_zero, Option.some.injEq] at h
    subst h
    exact ⟨by simp, .inr ⟨e, t, _, rfl, rfl⟩⟩
  | some e :: ks, .pair (.list t) b, c, i + 1, bx, h => by
    simp only [boxesOf, List.getElem?_cons_succ] at h
    obtain ⟨h1, h2⟩ := boxes_kind ks b c.2 i bx h
    exact ⟨by simpa using h1, by simpa using h2⟩
  | none :: _, .unit, _, _, _, h | none :: _, .bool, _, _, _, h | none :: _, .int _, _, _, _, h | none :: _, .str, _, _, _, h | none :: _, .list _, _, _, _, h | none :: _, .nl _, _, _, _, h | none :: _, .sl _ _, _, _, _, h | none :: _, .ref _, _, _, _, h | none :: _, .opt _, _, _, _, h | none :: _, .ptr _ _ _, _, _, _, h | none :: _, .ep _ _ _ _, _, _, _, h | none :: _, .fn _ _ _, _, _, _, h | none :: _, .bld _ _ _, _, _, _, h | none :: _, .nif, _, _, _, h | none :: _, .ifi _ _, _, _, _, h => by simp [boxesOf] at h
  | some _ :: _, .unit, _, _, _, h | some _ :: _, .bool, _, _, _, h | some _ :: _, .int _, _, _, _, h | some _ :: _, .str, _, _, _, h | some _ :: _, .list _, _, _, _, h | some _ :: _, .nl _, _, _, _, h | some _ :: _, .sl _ _, _, _, _, h | some _ :: _, .ref _, _, _, _, h | some _ :: _, .opt _, _, _, _, h | some _ :: _, .ptr _ _ _, _, _, _, h | some _ :: _, .ep _ _ _ _, _, _, _, h | some _ :: _, .fn _ _ _, _, _, _, h | some _ :: _, .bld _ _ _, _, _, _, h | some _ :: _, .nif, _, _, _, h | some _ :: _, .ifi _ _, _, _, _, h => by simp [boxesOf] at h
  | some _ :: _, .pair .unit _, _, _, _, h | some _ :: _, .pair .bool _, _, _, _, h | some _ :: _, .pair (.int _) _, _, _, _, h | some _ :: _, .pair .str _, _, _, _, h | some _ :: _, .pair (.pair _ _) _, _, _, _, h | some _ :: _, .pair (.nl _) _, _, _, _, h | some _ :: _, .pair (.sl _ _) _, _, _, _, h | some _ :: _, .pair (.ref _) _, _, _, _, h | some _ :: _, .pair (.opt _) _, _, _, _, h | some _ :: _, .pair (.ptr _ _ _) _, _, _, _, h | some _ :: _, .pair (.ep _ _ _ _) _, _, _, _, h | some _ :: _, .pair (.fn _ _ _) _, _, _, _, h | some _ :: _, .pair (.bld _ _ _) _, _, _, _, h | some _ :: _, .pair (.nif) _, _, _, _, h | some _ :: _, .pair (.ifi _ _) _, _, _, _, h => by simp [boxesOf] at h

/-- What is told of a callee's box. -/
def InOK (st : St) (_σ : Nat → Nat) (E Ec : Env) (q : Nat) : Bx → Prop
  | .one tv => ∃ tv0, st.b[q]? = some (some (.one tv0)) ∧ (∀ e, eltOf tv0.t e = eltOf tv.t e) ∧ ∀ cs, rep E tv0.t tv0.x cs → rep Ec tv.t tv.x cs
  | .arr e t xs => st.b[q]? = some (some (.arr e t xs)) ∧ t.on (fun _ => false) = true

theorem inB_ok {st : St} {σ : Nat → Nat} {E Ec : Env} {ks0 : List (Option TypeId)} (hm : ∀ b j v, E.m b j = some v → Ec.m b j = some v) (hβ : ∀ i b, i < ks0.length → E.β (σ i) = some b → Ec.β i = some b) (hτ : ∀ i v, isA ks0 i = true → E.τ (σ i) = some v → Ec.τ i = some v) :
    ∀ (ks : List (Option TypeId)) (j : Nat) (ct : Ty) (c : ct.den), inB st σ j ks ct = some c → ct.top ks0 = true → SpM.wf.go ks ct = true → ∀ i bx, (boxesOf ks ct c)[i]? = some (some bx) → InOK st σ E Ec (σ (j + i)) bx
  | [], j, ct, c, h, _, _, i, bx, hb => by cases ct <;> simp [boxesOf] at hb
  | none :: ks, j, .pair a b, c, h, ht, hw, i, bx, hb => by
    simp only [Ty.top, Bool.and_eq_true] at ht
    simp only [inB] at h
    split at h
    · rename_i tv htv
      split at h
      · rename_i x y hx hy
        obtain rfl := Option.some.inj h
        cases i with
        | zero =>
          simp only [boxesOf, List.getElem?_cons_zero, Option.some.injEq] at hb
          subst hb
          exact ⟨tv, htv, fun e => (castTV_elt hx e).trans (ren_elt σ e a), fun cs r => rep_unren hm hβ hτ a _ _ ht.1 (castTV_rep hx r)⟩
        | succ i =>
          simp only [boxesOf, List.getElem?_cons_succ] at hb
          have := inB_ok hm hβ hτ ks (j + 1) b y hy ht.2 hw i bx hb
          rwa [show j + (i + 1) = j + 1 + i by omega]
      · cases h
    · cases h
  | some e :: ks, j, .pair (.list t) b, c, h, ht, hw, i, bx, hb => by
    simp only [Ty.top, Bool.and_eq_true] at ht
    simp only [SpM.wf.go, Bool.and_eq_true] at hw
    simp only [inB] at h
    split at h
    · rename_i e' t' xs htv
      split at h
      · rename_i x y hx hy
        split at h
        · rename_i hee
          subst hee
          obtain rfl := Option.some.inj h
          obtain ⟨rfl, hxx⟩ := cast_list hx
          obtain rfl := eq_of_heq hxx
          cases i with
          | zero =>
            simp only [boxesOf, List.getElem?_cons_zero, Option.some.injEq] at hb
            subst hb
            exact ⟨htv, hw.1⟩
          | succ i =>
            simp only [boxesOf, List.getElem?_cons_succ] at hb
            have := inB_ok hm hβ hτ ks (j + 1) b y hy ht.2 hw.2 i bx hb
            rwa [show j + (i + 1) = j + 1 + i by omega]
        · cases h
      · cases h
    · cases h
  | none :: _, _, .unit, _, h, _, _, _, _, _ | none :: _, _, .bool, _, h, _, _, _, _, _ | none :: _, _, .int _, _, h, _, _, _, _, _ | none :: _, _, .str, _, h, _, _, _, _, _ | none :: _, _, .list _, _, h, _, _, _, _, _ | none :: _, _, .nl _, _, h, _, _, _, _, _ | none :: _, _, .sl _ _, _, h, _, _, _, _, _ | none :: _, _, .ref _, _, h, _, _, _, _, _ | none :: _, _, .opt _, _, h, _, _, _, _, _ | none :: _, _, .ptr _ _ _, _, h, _, _, _, _, _ | none :: _, _, .ep _ _ _ _, _, h, _, _, _, _, _ | none :: _, _, .fn _ _ _, _, h, _, _, _, _, _ | none :: _, _, .bld _ _ _, _, h, _, _, _, _, _ | none :: _, _, .nif, _, h, _, _, _, _, _ | none :: _, _, .ifi _ _, _, h, _, _, _, _, _ => by simp [inB] at h
  | some _ :: _, _, .unit, _, h, _, _, _, _, _ | some _ :: _, _, .bool, _, h, _, _, _, _, _ | some _ :: _, _, .int _, _, h, _, _, _, _, _ | some _ :: _, _, .str, _, h, _, _, _, _, _ | some _ :: _, _, .list _, _, h, _, _, _, _, _ | some _ :: _, _, .nl _, _, h, _, _, _, _, _ | some _ :: _, _, .sl _ _, _, h, _, _, _, _, _ | some _ :: _, _, .ref _, _, h, _, _, _, _, _ | some _ :: _, _, .opt _, _, h, _, _, _, _, _ | some _ :: _, _, .ptr _ _ _, _, h, _, _, _, _, _ | some _ :: _, _, .ep _ _ _ _, _, h, _, _, _, _, _ | some _ :: _, _, .fn _ _ _, _, h, _, _, _, _, _ | some _ :: _, _, .bld _ _ _, _, h, _, _, _, _, _ | some _ :: _, _, .nif, _, h, _, _, _, _, _ | some _ :: _, _, .ifi _ _, _, h, _, _, _, _, _ => by simp [inB] at h
  | some _ :: _, _, .pair .unit _, _, h, _, _, _, _, _ | some _ :: _, _, .pair .bool _, _, h, _, _, _, _, _ | some _ :: _, _, .pair (.int _) _, _, h, _, _, _, _, _ | some _ :: _, _, .pair .str _, _, h, _, _, _, _, _ | some _ :: _, _, .pair (.pair _ _) _, _, h, _, _, _, _, _ | some _ :: _, _, .pair (.nl _) _, _, h, _, _, _, _, _ | some _ :: _, _, .pair (.sl _ _) _, _, h, _, _, _, _, _ | some _ :: _, _, .pair (.ref _) _, _, h, _, _, _, _, _ | some _ :: _, _, .pair (.opt _) _, _, h, _, _, _, _, _ | some _ :: _, _, .pair (.ptr _ _ _) _, _, h, _, _, _, _, _ | some _ :: _, _, .pair (.ep _ _ _ _) _, _, h, _, _, _, _, _ | some _ :: _, _, .pair (.fn _ _ _) _, _, h, _, _, _, _, _ | some _ :: _, _, .pair (.bld _ _ _) _, _, h, _, _, _, _, _ | some _ :: _, _, .pair (.nif) _, _, h, _, _, _, _, _ | some _ :: _, _, .pair (.ifi _ _) _, _, h, _, _, _, _, _ => by simp [inB] at h

/-- A box behind the call. -/
def OutOK (σ : Nat → Nat) (ks0 : List (Option TypeId)) (c : Bx) : Bx → Prop
  | .one tv => tv.t.top ks0 = true ∧ c = .one ⟨tv.t.ren σ, renX σ tv.t tv.x⟩
  | .arr e t xs => t.on (fun _ => false) = true ∧ c = .arr e t xs
theorem putB_length {σ : Nat → Nat} : ∀ (ks : List (Option TypeId)) (j : Nat) (ct : Ty) (x : ct.den) (bs : List (Option Bx)), (putB σ j ks ct x bs).length = bs.length := by
  intro ks
  induction ks with
  | nil => intro j ct x bs; cases ct <;> rfl
  | cons k ks ih =>
    intro j ct x bs
    cases k with
    | none => cases ct <;> first | rfl | (simp only [putB, ih, List.length_set])
    | some e =>
      cases ct with
      | pair a b => cases a <;> first | rfl | (simp only [putB, ih, List.length_set])
      | _ => rfl
theorem set_get {bs : List (Option Bx)} {q i : Nat} {bx c : Bx} (h : (bs.set q (some bx))[i]? = some (some c)) : (i = q ∧ c = bx) ∨ (i ≠ q ∧ bs[i]? = some (some c)) := by
  rw [List.getElem?_set] at h
  split at h
  · split at h
    · simp only [Option.some.injEq] at h; rename_i e _; exact .inl ⟨e.symm, h.symm⟩
    · cases h
  · rename_i e; exact .inr ⟨fun q => e q.symm, h⟩
theorem putB_get {σ : Nat → Nat} {ks0 : List (Option TypeId)} : ∀ (ks : List (Option TypeId)) (j : Nat) (ct : Ty) (x : ct.den) (bs : List (Option Bx)), ct.top ks0 = true → SpM.wf.go ks ct = true → ∀ i c, (putB σ j ks ct x bs)[i]? = some (some c) →
    (∃ q bx, q < ks.length ∧ i = σ (j + q) ∧ (boxesOf ks ct x)[q]? = some (some bx) ∧ OutOK σ ks0 c bx) ∨ ((∀ q, q < ks.length → i ≠ σ (j + q)) ∧ bs[i]? = some (some c)) := by
  intro ks
  induction ks with
  | nil => intro j ct x bs _ _ i c h; exact .inr ⟨fun q hq => by simp at hq, by cases ct <;> exact h⟩
  | cons k ks ih =>
    intro j ct x bs ht hw i c h
    have fin : ∀ (b : Ty) (y : b.den) (bs0 : List (Option Bx)) (bx0 c0 : Bx), b.top ks0 = true → SpM.wf.go ks b = true → (boxesOf (k :: ks) ct x) = some bx0 :: boxesOf ks b y → OutOK σ ks0 c0 bx0 → (putB σ (j + 1) ks b y (bs.set (σ j) (some c0)))[i]? = some (some c) →
        (∃ q bx, q < (k :: ks).length ∧ i = σ (j + q) ∧ (boxesOf (k :: ks) ct x)[q]? = some (some bx) ∧ OutOK σ ks0 c bx) ∨ ((∀ q, q < (k :: ks).length → i ≠ σ (j + q)) ∧ bs[i]? = some (some c)) := fun b y bs0 bx0 c0 hb1 hb2 hb3 hb4 hp => by
      rcases ih (j + 1) b y _ hb1 hb2 i c hp with ⟨q, bx, h1, h2, h3, h4⟩ | ⟨h1, h2⟩
      · exact .inl ⟨q + 1, bx, by simpa using h1, by rw [h2]; congr 1; omega, by rw [hb3]; exact h3, h4⟩
      · rcases set_get h2 with ⟨rfl, rfl⟩ | ⟨hne, h3⟩
        · exact .inl ⟨0, bx0, by simp, rfl, by rw [hb3]; rfl, hb4⟩
        · refine .inr ⟨fun q hq => ?_, h3⟩
          cases q with
          | zero => exact hne
          | succ q => rw [show j + (q + 1) = j + 1 + q by omega]; exact h1 q (by simpa using hq)
    cases k with
    | none =>
      cases ct with
      | pair a b =>
        simp only [Ty.top, Bool.and_eq_true] at ht
        exact fin b x.2 bs (.one ⟨a, x.1⟩) _ ht.2 hw rfl ⟨ht.1, rfl⟩ h
      | _ => simp [SpM.wf.go] at hw
    | some e =>
      cases ct with
      | pair a b =>
        cases a with
        | list t =>
          simp only [Ty.top, Bool.and_eq_true] at ht
          simp only [SpM.wf.go, Bool.and_eq_true] at hw
          exact fin b x.2 bs (.arr e t x.1) _ ht.2 hw.2 rfl ⟨hw.1, rfl⟩ h
        | _ => simp [SpM.wf.go] at hw
      | _ => simp [SpM.wf.go] at hw

theorem killB_get : ∀ (l : List Nat) (bs : List (Option Bx)) (i : Nat) (c : Bx), (killB l bs)[i]? = some (some c) → i ∉ l ∧ bs[i]? = some (some c)
  | [], bs, i, c, h => ⟨by simp, h⟩
  | j :: r, bs, i, c, h => by
    obtain ⟨h1, h2⟩ := killB_get r (bs.set j none) i c h
    rw [List.getElem?_set] at h2
    split at h2
    · split at h2 <;> cases h2
    · rename_i hne; exact ⟨by simp [h1]; exact fun q => hne q.symm, h2⟩
theorem killB_length : ∀ (l : List Nat) (bs : List (Option Bx)), (killB l bs).length = bs.length
  | [], _ => rfl
  | _ :: r, bs => by rw [killB, killB_length r]; simp
theorem behB_get {s : SpM} {l : List Nat} {x : s.ct.den} {bs : List (Option Bx)} (h1 : s.ct.top s.ks = true) (h2 : SpM.wf.go s.ks s.ct = true) (hl : l.length = s.ks.length) (i : Nat) (c : Bx) (h : (behB s l x bs)[i]? = some (some c)) :
    (s.dead = false ∧ ∃ q bx, q < s.ks.length ∧ i = l.getD (0 + q) 0 ∧ (boxesOf s.ks s.ct x)[q]? = some (some bx) ∧ OutOK (l.getD · 0) s.ks c bx) ∨ ((∀ q, q < s.ks.length → i ≠ l.getD (0 + q) 0) ∧ bs[i]? = some (some c)) := by
  unfold behB at h
  split at h
  · obtain ⟨h3, h4⟩ := killB_get l bs i c h
    refine .inr ⟨fun q hq e => h3 ?_, h4⟩
    rw [e, Nat.zero_add, List.getD_eq_getElem?_getD, List.getElem?_eq_getElem (by omega)]; exact List.getElem_mem (by omega)
  · rename_i hd
    rcases putB_get s.ks 0 s.ct x bs h1 h2 i c h with q | q
    · exact .inl ⟨hd, q⟩
    · exact .inr q
theorem behB_length {s : SpM} {l : List Nat} {x : s.ct.den} {bs : List (Option Bx)} : (behB s l x bs).length = bs.length := by
  unfold behB
  split
  · exact killB_length l bs
  · exact putB_length _ _ _ _ _
theorem ret_on {E E' : Env} (hm : ∀ b j v, E.m b j = some v → E'.m b j = some v) {t : Ty} (ht : t.on (fun _ => false) = true) {x : t.den} {v : Value} (h : SlotRep E (retSlot t x) v) : SlotRep E' (retSlot t x) v := by
  have hk : offS (fun _ => false) (retSlot t x) = retSlot t x := by
    unfold retSlot
    split
    · rename_i a
      simp only [Ty.on, Bool.and_eq_true] at ht
      simp only [offS, ht.1, if_true]
    · simp only [offS, ht, if_true]
  rw [← hk]
  exact offS_ok (p := fun _ => false) hm (fun _ _ q => by cases q) (fun _ _ q => by cases q) h

theorem nodup_ok : ∀ (l : List Nat), nodup l = true → l.Nodup
  | [], _ => List.nodup_nil
  | x :: r, h => by
    simp only [nodup, Bool.and_eq_true, Bool.not_eq_true', List.contains_eq_mem, decide_eq_false_iff_not] at h
    exact List.nodup_cons.2 ⟨h.1, nodup_ok r h.2⟩
theorem idx_ok {l : List Nat} (hn : l.Nodup) {j : Nat} (hj : j < l.length) : l.idxOf? (l.getD j 0) = some j := by
  rw [List.getD_eq_getElem?_getD, List.getElem?_eq_getElem hj]
  show l.idxOf? l[j] = some j
  rw [List.idxOf?, List.findIdx?_eq_some_iff_getElem]
  refine ⟨hj, by simp, fun i hi => ?_⟩
  have : l[i] ≠ l[j] := List.pairwise_iff_getElem.1 hn i j (by omega) hj hi
  simpa using this
theorem idx_some {l : List Nat} {i j : Nat} (h : l.idxOf? i = some j) : j < l.length ∧ l.getD j 0 = i := by
  rw [List.idxOf?, List.findIdx?_eq_some_iff_getElem] at h
  obtain ⟨hj, h1, _⟩ := h
  refine ⟨hj, ?_⟩
  rw [List.getD_eq_getElem?_getD, List.getElem?_eq_getElem hj]
  simpa using h1
theorem idx_none {l : List Nat} {i j : Nat} (h : l.idxOf? i = none) (hj : j < l.length) : l.getD j 0 ≠ i := by
  rw [List.idxOf?, List.findIdx?_eq_none_iff] at h
  have := h l[j] (List.getElem_mem hj)
  rw [List.getD_eq_getElem?_getD, List.getElem?_eq_getElem hj]
  simpa using this

section
variable {P : Program} {C : Ctx} {m0 : Base} {w0 : World} {E : Env} {st : St} {a : Act} {w : World} {R : Type}
theorem GR.mut {tmps : Array Value} {s : SpM} {l : List Nat} {c c' : s.ct.den} {w' : World} {Ec E' : Env} (h : GR C m0 w0 E st tmps w) (hwf : s.wf = true) (hn : l.Nodup) (hlt : ∀ i ∈ l, i < st.b.length) (hl : l.length = s.ks.length)
    (hβc : ∀ j, j < l.length → Ec.β j = E.β (l.getD j 0)) (hβn : ∀ j, l.length ≤ j → Ec.β j = none)
    (hin : ∀ (i : Nat) (bx : Bx), (boxesOf s.ks s.ct c)[i]? = some (some bx) → InOK st (l.getD · 0) E Ec (l.getD (0 + i) 0) bx)
    (hkind : ∀ (i : Nat) (bx : Bx), (boxesOf s.ks s.ct c')[i]? = some (some bx) → ∃ bx' : Bx, (boxesOf s.ks s.ct c)[i]? = some (some bx'))
    (hc : ChgX (fun b => ∃ i, Ec.β i = some b) C E.m w E'.m w') (hf : FR (fun _ => True) E' ⟨[], if s.dead = true then [] else boxesOf s.ks s.ct c'⟩ #[] w')
    (ho : ∀ i b, E'.β i = some b → ((∃ j, Ec.β j = some b) ∨ w.heap.size ≤ b) ∧ b < w'.heap.size) (hx : ∀ i, s.ks[i]? = some none → E'.β i = Ec.β i) :
    ∃ E'', (∀ b j v, E'.m b j = some v → E''.m b j = some v) ∧ GR C m0 w0 E'' ⟨(st.off fun i => !isArr s.ks l i).t, behB s l c' (st.off fun i => !isArr s.ks l i).b⟩ tmps w' := by
  have hwf' : s.ct.top s.ks = true ∧ SpM.wf.go s.ks s.ct = true := by
    unfold SpM.wf at hwf
    simp only [Bool.and_eq_true] at hwf
    exact ⟨hwf.1.1.1, hwf.2⟩
  let E'' : Env := ⟨E'.m, fun i => match l.idxOf? i with | some j => E'.β j | none => E.β i, fun i => if isArr s.ks l i = true then (match l.idxOf? i with | some j => E'.τ j | none => none) else E.τ i⟩
  have mem_ : ∀ j, j < l.length → l.getD j 0 ∈ l := fun j hj => by
    rw [List.getD_eq_getElem?_getD, List.getElem?_eq_getElem hj]; exact List.getElem_mem hj
  have bA : ∀ j, j < l.length → E''.β (l.getD j 0) = E'.β j := fun j hj => by show (match l.idxOf? _ with | some j => _ | none => _) = _; rw [idx_ok hn hj]
  have bB : ∀ i, l.idxOf? i = none → E''.β i = E.β i := fun i hi => by show (match l.idxOf? _ with | some j => _ | none => _) = _; rw [hi]
  have tA : ∀ j, isA s.ks j = true → E''.τ (l.getD j 0) = E'.τ j := fun j hj => by
    have hj' : j < l.length := by rw [hl]; exact (isA_lt hj).1
    have : isArr s.ks l (l.getD j 0) = true := by unfold isArr; rw [idx_ok hn hj']; exact hj
    show (if _ then _ else _) = _
    rw [if_pos this, idx_ok hn hj']
  have tB : ∀ i, isArr s.ks l i = false → E''.τ i = E.τ i := fun i hi => by show (if _ then _ else _) = _; rw [if_neg (by simp [hi])]
  have arrN : ∀ i, l.idxOf? i = none → isArr s.ks l i = false := fun i hi => by unfold isArr; rw [hi]
  have ksn : ∀ j, j < l.length → isA s.ks j = false → s.ks[j]? = some none := fun j hj h1 => by
    unfold isA at h1
    rw [hl] at hj
    cases hk : s.ks[j]? with
    | none => rw [List.getElem?_eq_none_iff] at hk; omega
    | some x => cases x with
      | none => rfl
      | some e => rw [hk] at h1; cases h1
  have hβ' : ∀ i b, (!isArr s.ks l i) = true → E.β i = some b → E''.β i = some b := fun i b hi q => by
    cases hi2 : l.idxOf? i with
    | none => rw [bB i hi2]; exact q
    | some j =>
      obtain ⟨hj, rfl⟩ := idx_some hi2
      have : isA s.ks j = false := by unfold isArr at hi; rw [hi2] at hi; simpa using hi
      rw [bA j hj, hx j (ksn j hj this), hβc j hj]; exact q
  have hτ' : ∀ i v, (!isArr s.ks l i) = true → E.τ i = some v → E''.τ i = some v := fun i v hi q => by rw [tB i (by simpa using hi)]; exact q
  have hm' : ∀ b j v, E.m b j = some v → E''.m b j = some v := hc.sub
  have oldX : ∀ i b, l.idxOf? i = none → E.β i = some b → ¬ ∃ q, Ec.β q = some b := fun i b hi hb ⟨q, hq⟩ => by
    have hq' : q < l.length := Nat.lt_of_not_le fun hle => by rw [hβn q hle] at hq; cases hq
    rw [hβc q hq'] at hq
    exact idx_none hi hq' (h.fr.inj _ _ b hq hb)
  have hlen : (behB s l c' (st.off fun i => !isArr s.ks l i).b).length = st.b.length := by rw [behB_length]; simp [St.off]
  have offb : ∀ (i : Nat) (bx : Bx), (st.off fun i => !isArr s.ks l i).b[i]? = some (some bx) → ∃ o, st.b[i]? = some o ∧ offB (fun i => !isArr s.ks l i) o = some bx := fun i bx hb => by
    have hb' : (st.b.map (offB fun i => !isArr s.ks l i))[i]? = some (some bx) := hb
    rw [List.getElem?_map, Option.map_eq_some_iff] at hb'; exact hb'
  have outN : ∀ i, (∀ q, q < s.ks.length → i ≠ l.getD (0 + q) 0) → l.idxOf? i = none := fun i hi => by
    cases hi2 : l.idxOf? i with
    | none => rfl
    | some j => obtain ⟨hj, e⟩ := idx_some hi2; exact absurd e.symm (by have := hi j (by omega); rwa [Nat.zero_add] at this)
  have at_ := fun i c0 => behB_get (x := c') (bs := (st.off fun i => !isArr s.ks l i).b) hwf'.1 hwf'.2 hl i c0
  have hfb : s.dead = false → ∀ tv i, (boxesOf s.ks s.ct c')[i]? = some (some (.one tv)) → OneOK E' w' i tv := fun hd tv i hb => hf.boxes i tv (by rw [hd]; exact hb)
  have hfa : s.dead = false → ∀ e t xs i, (boxesOf s.ks s.ct c')[i]? = some (some (.arr e t xs)) → ArrOK E' w' i e t xs := fun hd e t xs i hb => hf.arrs i e t xs (by rw [hd]; exact hb)
  have rX : ∀ (t : Ty) (x : t.den) (cs : List Value), t.top s.ks = true → rep E' t x cs → rep E'' (t.ren (l.getD · 0)) (renX (l.getD · 0) t x) cs := fun t x cs ht r =>
    rep_renX (E := E'') (Ec := E') (ks := s.ks) (fun _ _ _ q => q) (fun i b hi q => by rw [bA i (by omega)]; exact q) (fun i v hi q => by rw [tA i hi]; exact q) t x cs ht r
  refine ⟨E'', fun _ _ _ q => q, ⟨by show (st.t.map _).length = _; rw [List.length_map]; exact h.fr.len, fun i sl _ hs => ?_, fun i tv hi => ?_, fun i e t xs hi => ?_, fun i j b hbi hbj => ?_, hf.inv⟩, h.chg.trans hc (fun b hb ⟨q, hq⟩ => ?_), fun i b hb => ?_, fun i b hb => ?_, fun i hi => ?_, C.mono hc.sub h.gl, h.fx.mono (by rw [hlen]; exact Nat.le_refl _) fun i tv hi ht => ?_⟩
  · have hs' : (st.t.map (offS fun i => !isArr s.ks l i))[i]? = some sl := hs
    rw [List.getElem?_map, Option.map_eq_some_iff] at hs'
    obtain ⟨s0, h0, rfl⟩ := hs'
    exact offS_ok hm' hβ' hτ' (h.fr.slots i s0 trivial h0)
  · rcases at_ i _ hi with ⟨hdd, q, bx, hq, e1, e2, e3⟩ | ⟨hne, hb⟩
    · cases bx with
      | arr e t xs => cases e3.2
      | one tv' =>
        obtain ⟨ht, e⟩ := e3
        simp only [Bx.one.injEq] at e
        subst e
        obtain ⟨blk, cs, e4, hb, hg, hr, hmn⟩ := hfb hdd tv' q e2
        rw [Nat.zero_add] at e1
        exact ⟨blk, cs, e4, by rw [e1, bA q (by omega)]; exact hb, by rw [ren_elt]; exact hg, rX _ _ _ ht hr, hmn⟩
    · have hi2 := outN i hne
      obtain ⟨o, ho1, ho2⟩ := offb i _ hb
      obtain ⟨rfl, hto⟩ := offB_one ho2
      obtain ⟨blk, cs, e4, hb, hg, hr, hmn⟩ := h.fr.boxes i tv ho1
      have hX := oldX i blk hi2 hb
      exact ⟨blk, cs, e4, by rw [bB i hi2]; exact hb, by rw [hc.heap blk (h.lt i blk hb) hX]; exact hg, rep_on hm' hβ' hτ' _ _ _ hto hr, fun j => by
        show E'.m blk j = none
        rw [hc.mem blk (h.lt i blk hb) hX]; exact hmn j⟩
  · rcases at_ i _ hi with ⟨hdd, q, bx, hq, e1, e2, e3⟩ | ⟨hne, hb⟩
    · cases bx with
      | one tv' => cases e3.2
      | arr e' t' xs' =>
        obtain ⟨ht, hbe⟩ := e3
        simp only [Bx.arr.injEq] at hbe
        obtain ⟨rfl, rfl, he3⟩ := hbe
        obtain rfl := eq_of_heq he3
        obtain ⟨v, l2, q1, q2, q3, q4, q5⟩ := hfa hdd e t xs q e2
        rw [Nat.zero_add] at e1
        have hisA : isA s.ks q = true := by
          obtain ⟨_, ⟨⟨_, hk⟩, _⟩ | ⟨_, _, _, _, hk⟩⟩ := boxes_kind _ _ _ _ _ e2
          · cases hk
          · unfold isA; rw [hk]
        exact ⟨v, l2, by rw [e1, tA q hisA]; exact q1, q2, reps_on (p := fun _ => false) (E := E') (E' := E'') (fun _ _ _ z => z) (fun _ _ z => by cases z) (fun _ _ z => by cases z) ht _ _ q3, by rw [e1, bA q (by omega)]; exact q4, q5⟩
    · have hi2 := outN i hne
      obtain ⟨o, ho1, ho2⟩ := offb i _ hb
      obtain ⟨rfl, hto⟩ := offB_arr ho2
      obtain ⟨v, l2, q1, q2, q3, q4, q5⟩ := h.fr.arrs i e t xs ho1
      have hX : ∀ g, v.ownBlock = some g → g < w.heap.size ∧ ¬ ∃ q, Ec.β q = some g := fun g hg => ⟨h.lt i g (q4.trans hg), oldX i g hi2 (q4.trans hg)⟩
      exact ⟨v, l2, by rw [tB i (arrN i hi2)]; exact q1, ownsRow_heap q2 (fun g hg => hc.heap g (hX g hg).1 (hX g hg).2), reps_on hm' hβ' hτ' hto _ _ q3, by rw [bB i hi2]; exact q4, fun g j hg => by
        show E'.m g j = none
        rw [hc.mem g (hX g hg).1 (hX g hg).2]; exact q5 g j hg⟩
  · have key : ∀ i j b, l.idxOf? j = none → E.β j = some b → E'.β i = some b → False := fun i j b hj hb hb' => by
      rcases (ho i b hb').1 with q | q
      · exact oldX j b hj hb q
      · have := h.lt j b hb; omega
    cases hi2 : l.idxOf? i with
    | none =>
      rw [bB i hi2] at hbi
      cases hj2 : l.idxOf? j with
      | none => rw [bB j hj2] at hbj; exact h.fr.inj i j b hbi hbj
      | some q => obtain ⟨hq, rfl⟩ := idx_some hj2; rw [bA q hq] at hbj; exact (key q i b hi2 hbi hbj).elim
    | some q =>
      obtain ⟨hq, rfl⟩ := idx_some hi2
      rw [bA q hq] at hbi
      cases hj2 : l.idxOf? j with
      | none => rw [bB j hj2] at hbj; exact (key q j b hj2 hbj hbi).elim
      | some q2 => obtain ⟨hq2, rfl⟩ := idx_some hj2; rw [bA q2 hq2] at hbj; rw [hf.inj q q2 b hbi hbj]
  · have hq' : q < l.length := Nat.lt_of_not_le fun hle => by rw [hβn q hle] at hq; cases hq
    rw [hβc q hq'] at hq
    rcases h.own _ b hq with z | z
    · omega
    · exact z
  · cases hi2 : l.idxOf? i with
    | none => rw [bB i hi2] at hb; exact h.own i b hb
    | some q =>
      obtain ⟨hq, rfl⟩ := idx_some hi2
      rw [bA q hq] at hb
      rcases (ho q b hb).1 with ⟨q2, hq2⟩ | z
      · have hq' : q2 < l.length := Nat.lt_of_not_le fun hle => by rw [hβn q2 hle] at hq2; cases hq2
        rw [hβc q2 hq'] at hq2; exact h.own _ b hq2
      · exact .inl (Nat.le_trans h.chg.size z)
  · cases hi2 : l.idxOf? i with
    | none => rw [bB i hi2] at hb; exact Nat.lt_of_lt_of_le (h.lt i b hb) hc.size
    | some q => obtain ⟨hq, rfl⟩ := idx_some hi2; rw [bA q hq] at hb; exact (ho q b hb).2
  · have hi' : st.b.length ≤ i := by rw [← hlen]; exact hi
    have hi2 : l.idxOf? i = none := by
      cases hi2 : l.idxOf? i with
      | none => rfl
      | some q => obtain ⟨hq, e⟩ := idx_some hi2; have := hlt _ (mem_ q hq); omega
    rw [bB i hi2, tB i (arrN i hi2)]; exact h.top i hi'
  · rcases at_ i _ ht with ⟨hdd, q, bx, hq, e1, e2, e3⟩ | ⟨hne, hb⟩
    · cases bx with
      | arr e t xs => cases e3.2
      | one tv' =>
        rw [Nat.zero_add] at e1
        subst e1
        obtain ⟨_, ⟨_, hk⟩ | ⟨_, _, _, hk, _⟩⟩ := boxes_kind _ _ _ _ _ e2
        · obtain ⟨bx', hbx⟩ := hkind q _ e2
          obtain ⟨_, ⟨⟨tv2, rfl⟩, _⟩ | ⟨_, _, _, _, hk2⟩⟩ := boxes_kind _ _ _ _ _ hbx
          · obtain ⟨tv0, h0, _⟩ := hin q _ hbx
            rw [Nat.zero_add] at h0
            exact ⟨⟨tv0, h0⟩, by rw [bA q (by omega), hx q hk, hβc q (by omega)]⟩
          · rw [hk] at hk2; cases hk2
        · cases hk
    · obtain ⟨o, ho1, ho2⟩ := offb i _ hb
      obtain ⟨rfl, hto⟩ := offB_one ho2
      exact ⟨⟨tv, ho1⟩, bB i (outN i hne)⟩

theorem boxes_some : ∀ (ks : List (Option TypeId)) (ct : Ty) (c c' : ct.den) (i : Nat) (bx : Bx), (boxesOf ks ct c')[i]? = some (some bx) → ∃ bx', (boxesOf ks ct c)[i]? = some (some bx') := by
  intro ks
  induction ks with
  | nil => intro ct c c' i bx h; cases ct <;> simp [boxesOf] at h
  | cons k ks ih =>
    intro ct c c' i bx h
    cases k with
    | none =>
      cases ct with
      | pair a b =>
        cases i with
        | zero => exact ⟨_, rfl⟩
        | succ i => exact ih b c.2 c'.2 i bx h
      | _ => simp [boxesOf] at h
    | some e =>
      cases ct with
      | pair a b =>
        cases a with
        | list t =>
          cases i with
          | zero => exact ⟨_, rfl⟩
          | succ i => exact ih b c.2 c'.2 i bx h
        | _ => simp [boxesOf] at h
      | _ => simp [boxesOf] at h

theorem mutH_ok {s : SpM} {g : FuncId} (hso : SoundM P C g s) {n : Nat} {o : Oper} {c : Call} {f : Operand} {K : St → Option R} {r : R} (hoc : o.op = .call c) (hcf : c.callee = .value f) (h : mutH g s n st o.dst f c.args.toList K = some r) : ∃ st', K st' = some r ∧ StepOK P C o st st' := by
  unfold mutH at h
  split at h
  · rename_i g' nf b0 u hg
    split at h
    · rename_i hgg
      subst hgg
      generalize hl : mutL st s (((comps b0 u).take nf).map .inr ++ c.args.toList.map .inl ++ ((comps b0 u).drop nf).map .inr) = l at h
      unfold mutG at h
      split at h
      · rename_i hcc
        obtain ⟨hwf, hnd, hall, hll⟩ := hcc
        split at h
        · rename_i y cc hy hc
          obtain ⟨⟨c', r0⟩, hF, h⟩ := bind_some h
          refine ⟨_, h, fun m0 w0 E a w Kc Q hg' hk => ?_⟩
          have hn := nodup_ok l hnd
          have hlt : ∀ i ∈ l, i < st.b.length := fun i hi => by simpa using List.all_eq_true.1 hall i hi
          obtain ⟨bs, hbs, hfv⟩ := vrep_fn (opd_ok hg'.fr (fun _ _ => trivial) hg)
          have hcs := comps_ok (a := a) b0 u bs hbs
          obtain ⟨ht1, ht2⟩ := srcs_take nf _ _ hcs
          have hsrc := srcs_append _ _ _ _ (srcs_append _ _ _ _ ht1 (srcs_inl (E := E) (a := a) c.args.toList)) ht2
          have hvals := argsT_ok hg'.fr (s.ps.ren (l.getD · 0)) _ y _ (fun _ _ _ _ => trivial) hsrc hy
          let Ec : Env := ⟨E.m, fun j => if j < l.length then E.β (l.getD j 0) else none, fun j => if j < l.length then E.τ (l.getD j 0) else none⟩
          have hβc : ∀ j, j < l.length → Ec.β j = E.β (l.getD j 0) := fun j hj => by show (if _ then _ else _) = _; rw [if_pos hj]
          have hτc : ∀ j, j < l.length → Ec.τ j = E.τ (l.getD j 0) := fun j hj => by show (if _ then _ else _) = _; rw [if_pos hj]
          have hβn : ∀ j, l.length ≤ j → Ec.β j = none := fun j hj => by show (if _ then _ else _) = _; rw [if_neg (by omega)]
          have hτn : ∀ j, l.length ≤ j → Ec.τ j = none := fun j hj => by show (if _ then _ else _) = _; rw [if_neg (by omega)]
          have hlow : ∀ j b, Ec.β j = some b → j < l.length := fun j b hb => Nat.lt_of_not_le fun hle => by rw [hβn j hle] at hb; cases hb
          have hwf' : s.ct.top s.ks = true ∧ s.ps.top s.ks = true ∧ s.rs.on (fun _ => false) = true ∧ SpM.wf.go s.ks s.ct = true := by
            unfold SpM.wf at hwf
            simp only [Bool.and_eq_true] at hwf
            exact ⟨hwf.1.1.1, hwf.1.1.2, hwf.1.2, hwf.2⟩
          have hmm : ∀ b j v, E.m b j = some v → Ec.m b j = some v := fun _ _ _ q => q
          have hb1 : ∀ i b, i < s.ks.length → E.β (l.getD i 0) = some b → Ec.β i = some b := fun i b hi q => by rw [hβc i (by omega)]; exact q
          have ht1' : ∀ i v, isA s.ks i = true → E.τ (l.getD i 0) = some v → Ec.τ i = some v := fun i v hi q => by rw [hτc i (by rw [hll]; exact (isA_lt hi).1)]; exact q
          have hin := inB_ok (st := st) (σ := (l.getD · 0)) (ks0 := s.ks) hmm hb1 ht1' s.ks 0 s.ct cc hc hwf'.1 hwf'.2.2.2
          have hfc : FR (fun _ => True) Ec ⟨[], boxesOf s.ks s.ct cc⟩ #[] w := by
            refine ⟨rfl, fun i sl _ hs => by simp at hs, fun i tv hi => ?_, fun i e t xs hi => ?_, fun i j b hbi hbj => ?_, hg'.fr.inv⟩
            · obtain ⟨tv0, h0, hel, hrc⟩ := hin i _ hi
              rw [Nat.zero_add] at h0
              obtain ⟨blk, cs, e, hb, hh, hr, hm⟩ := hg'.fr.boxes _ tv0 h0
              have hi' : i < l.length := by rw [hll]; exact (boxes_kind _ _ _ _ _ hi).1
              exact ⟨blk, cs, e, by rw [hβc i hi']; exact hb, by rw [← hel]; exact hh, hrc cs hr, hm⟩
            · obtain ⟨h0, hto⟩ := hin i _ hi
              rw [Nat.zero_add] at h0
              obtain ⟨v, l2, q1, q2, q3, q4, q5⟩ := hg'.fr.arrs _ e t xs h0
              have hi' : i < l.length := by rw [hll]; exact (boxes_kind _ _ _ _ _ hi).1
              exact ⟨v, l2, by rw [hτc i hi']; exact q1, q2, reps_on (p := fun _ => false) (E := E) (E' := Ec) (fun _ _ _ z => z) (fun _ _ z => by cases z) (fun _ _ z => by cases z) hto _ _ q3, by rw [hβc i hi']; exact q4, q5⟩
            · have hi' := hlow i b hbi
              have hj' := hlow j b hbj
              rw [hβc i hi'] at hbi; rw [hβc j hj'] at hbj
              have := hg'.fr.inj _ _ b hbi hbj
              have h1 := idx_ok hn hi'
              rw [this, idx_ok hn hj'] at h1
              exact (Option.some.inj h1).symm
          unfold Oper.wp
          have hex : (execOp a.eval o).run P w = .ok (.enter g' ((unflat b0 bs).take nf ++ c.args.toList.map a.eval ++ (unflat b0 bs).drop nf).toArray) w := by
            unfold execOp
            simp only [hoc, resolve, hcf, hfv, Deferred.ofValue, Sem.run_bind, Sem.run_pure, Result.andThen_ok, invoke]
            have : ((unflat b0 bs).take nf).toArray ++ c.args.map a.eval ++ ((unflat b0 bs).drop nf).toArray = ((unflat b0 bs).take nf ++ c.args.toList.map a.eval ++ (unflat b0 bs).drop nf).toArray := by
              apply Array.ext'; simp
            rw [this]
            exact hso.enter _ _
          rw [hex]
          have hvc := vals_unren (ks := s.ks) hmm hb1 ht1' s.ps y _ hwf'.2.1 hvals
          refine (hso.calls n cc _ c' r0 hF Ec w _ hfc (fun i hi => ⟨hβn i (by omega), hτn i (by omega)⟩) (fun i b hb => ?_) hg'.gl hvc).mono ?_
          · rw [hβc i (hlow i b hb)] at hb; exact hg'.lt _ b hb
          · rintro e' w' ⟨v, E', rfl, hch, hfr, ho, hx, hsl⟩
            obtain ⟨E2, hm2, hgn⟩ := hg'.mut hwf hn hlt hll hβc hβn hin (boxes_some s.ks s.ct cc c') hch hfr ho hx
            exact hk v E2 w' (hgn.putS o.dst (ret_on hm2 hwf'.2.2.1 hsl) a rfl)
        · cases h
      · cases h
    · cases h
  · cases h
theorem mutK_ok {sp : Specs} (hsp : ∀ g s, sp g = some s → SoundX P C g s) {n : Nat} {o : Oper} {c : Call} {f : Operand} {K : St → Option R} {r : R} (hoc : o.op = .call c) (hcf : c.callee = .value f) (h : mutK sp n st o.dst f c.args.toList K = some (some r)) : ∃ st', K st' = some r ∧ StepOK P C o st st' := by
  unfold mutK at h
  split at h
  · rename_i g nf b z hg
    split at h
    · rename_i l hs
      split at h
      · cases h
      rename_i s hfind
      obtain ⟨st', hst, hok⟩ := mutH_ok (hsp g (.m l) hs s (List.mem_of_find?_eq_some hfind)) hoc hcf (Option.some.inj h)
      refine ⟨st', hst, fun m0 w0 E a w Kc Q hg hkc => ?_⟩
      obtain ⟨E1, hg1⟩ := GR.frzL true _ E st hg
      exact hok m0 w0 E1 a w Kc Q hg1 hkc
    · cases h
  · cases h
end
end Go.Proofs.YtedenojeljjnaaaGreatDoorPi

namespace Go.Proofs.YtedenojeljjnaaaGreatDoorPi
open Go

/-! panics -/
section
variable {P : Program} {C : Ctx} {m0 : Base} {w0 : World} {E : Env} {st : St} {a : Act} {w : World} {R : Type}
def Ex.out : Ex → Exit
  | .norm => .normal
  | .exit id => .exit id
  | .ret => .ret
  | .pan T k n => .panic [{ v := .iface T (.int k n), recovered := false }]
/-- What an operation does that may end in a panic. -/
def PanOK (P : Program) (C : Ctx) (o : Oper) (st : St) (K : Ex → St → Option R) (Kn : St → Option R) (r : R) : Prop :=
  ∀ (m0 : Base) (w0 : World) (E : Env) (a : Act) (w : World) (Kc : Act → World → Prop) (Q : Exit → Act → World → Prop), GR C m0 w0 E st a.tmps w →
    (∀ st' v E' w', Kn st' = some r → GR C m0 w0 E' st' (a.put o.dst v).tmps w' → Kc (a.put o.dst v) w') →
    (∀ T k n st' E' w', K (.pan T k n) st' = some r → GR C m0 w0 E' st' a.tmps w' → Q (Ex.out (.pan T k n)) a w') → o.wp P a w Kc Q
theorem panH_ok {s : SpP} {g : FuncId} (hso : SoundP P C g s) {n : Nat} {o : Oper} {c : Call} {f : Operand} {K : Ex → St → Option R} {Kn : St → Option R} {r : R} (hoc : o.op = .call c) (hcf : c.callee = .value f) (h : panH g s n st o.dst f c.args.toList K Kn = some r) : PanOK P C o st K Kn r := by
  unfold panH at h
  split at h
  · rename_i g' nf b0 u hg
    split at h
    · rename_i hgg
      subst hgg
      generalize hl : mutL st s.toM (((comps b0 u).take nf).map .inr ++ c.args.toList.map .inl ++ ((comps b0 u).drop nf).map .inr) = l at h
      unfold panG at h
      split at h
      · rename_i hcc
        obtain ⟨hwf, hnd, hall, hll⟩ := hcc
        split at h
        · rename_i y cc hy hc
          obtain ⟨⟨c', r0⟩, hF, h⟩ := bind_some h
          intro m0 w0 E a w Kc Q hg' hk hp
          have hn := nodup_ok l hnd
          have hlt : ∀ i ∈ l, i < st.b.length := fun i hi => by simpa using List.all_eq_true.1 hall i hi
          obtain ⟨bs, hbs, hfv⟩ := vrep_fn (opd_ok hg'.fr (fun _ _ => trivial) hg)
          have hcs := comps_ok (a := a) b0 u bs hbs
          obtain ⟨ht1, ht2⟩ := srcs_take nf _ _ hcs
          have hsrc := srcs_append _ _ _ _ (srcs_append _ _ _ _ ht1 (srcs_inl (E := E) (a := a) c.args.toList)) ht2
          have hvals := argsT_ok hg'.fr (s.ps.ren (l.getD · 0)) _ y _ (fun _ _ _ _ => trivial) hsrc hy
          let Ec : Env := ⟨E.m, fun j => if j < l.length then E.β (l.getD j 0) else none, fun j => if j < l.length then E.τ (l.getD j 0) else none⟩
          have hβc : ∀ j, j < l.length → Ec.β j = E.β (l.getD j 0) := fun j hj => by show (if _ then _ else _) = _; rw [if_pos hj]
          have hτc : ∀ j, j < l.length → Ec.τ j = E.τ (l.getD j 0) := fun j hj => by show (if _ then _ else _) = _; rw [if_pos hj]
          have hβn : ∀ j, l.length ≤ j → Ec.β j = none := fun j hj => by show (if _ then _ else _) = _; rw [if_neg (by omega)]
          have hτn : ∀ j, l.length ≤ j → Ec.τ j = none := fun j hj => by show (if _ then _ else _) = _; rw [if_neg (by omega)]
          have hlow : ∀ j b, Ec.β j = some b → j < l.length := fun j b hb => Nat.lt_of_not_le fun hle => by rw [hβn j hle] at hb; cases hb
          have hwf' : s.ct.top s.ks = true ∧ s.ps.top s.ks = true ∧ s.rs.on (fun _ => false) = true ∧ SpM.wf.go s.ks s.ct = true := by
            unfold SpM.wf at hwf
            simp only [Bool.and_eq_true] at hwf
            exact ⟨hwf.1.1.1, hwf.1.1.2, hwf.1.2, hwf.2⟩
          have hmm : ∀ b j v, E.m b j = some v → Ec.m b j = some v := fun _ _ _ q => q
          have hb1 : ∀ i b, i < s.ks.length → E.β (l.getD i 0) = some b → Ec.β i = some b := fun i b hi q => by rw [hβc i (by omega)]; exact q
          have ht1' : ∀ i v, isA s.ks i = true → E.τ (l.getD i 0) = some v → Ec.τ i = some v := fun i v hi q => by rw [hτc i (by rw [hll]; exact (isA_lt hi).1)]; exact q
          have hin := inB_ok (st := st) (σ := (l.getD · 0)) (ks0 := s.ks) hmm hb1 ht1' s.ks 0 s.ct cc hc hwf'.1 hwf'.2.2.2
          have hfc : FR (fun _ => True) Ec ⟨[], boxesOf s.ks s.ct cc⟩ #[] w := by
            refine ⟨rfl, fun i sl _ hs => by simp at hs, fun i tv hi => ?_, fun i e t xs hi => ?_, fun i j b hbi hbj => ?_, hg'.fr.inv⟩
            · obtain ⟨tv0, h0, hel, hrc⟩ := hin i _ hi
              rw [Nat.zero_add] at h0
              obtain ⟨blk, cs, e, hb, hh, hr, hm⟩ := hg'.fr.boxes _ tv0 h0
              have hi' : i < l.length := by rw [hll]; exact (boxes_kind _ _ _ _ _ hi).1
              exact ⟨blk, cs, e, by rw [hβc i hi']; exact hb, by rw [← hel]; exact hh, hrc cs hr, hm⟩
            · obtain ⟨h0, hto⟩ := hin i _ hi
              rw [Nat.zero_add] at h0
              obtain ⟨v, l2, q1, q2, q3, q4, q5⟩ := hg'.fr.arrs _ e t xs h0
              have hi' : i < l.length := by rw [hll]; exact (boxes_kind _ _ _ _ _ hi).1
              exact ⟨v, l2, by rw [hτc i hi']; exact q1, q2, reps_on (p := fun _ => false) (E := E) (E' := Ec) (fun _ _ _ z => z) (fun _ _ z => by cases z) (fun _ _ z => by cases z) hto _ _ q3, by rw [hβc i hi']; exact q4, q5⟩
            · have hi' := hlow i b hbi
              have hj' := hlow j b hbj
              rw [hβc i hi'] at hbi; rw [hβc j hj'] at hbj
              have := hg'.fr.inj _ _ b hbi hbj
              have h1 := idx_ok hn hi'
              rw [this, idx_ok hn hj'] at h1
              exact (Option.some.inj h1).symm
          unfold Oper.wp
          have hex : (execOp a.eval o).run P w = .ok (.enter g' ((unflat b0 bs).take nf ++ c.args.toList.map a.eval ++ (unflat b0 bs).drop nf).toArray) w := by
            unfold execOp
            simp only [hoc, resolve, hcf, hfv, Deferred.ofValue, Sem.run_bind, Sem.run_pure, Result.andThen_ok, invoke]
            have : ((unflat b0 bs).take nf).toArray ++ c.args.map a.eval ++ ((unflat b0 bs).drop nf).toArray = ((unflat b0 bs).take nf ++ c.args.toList.map a.eval ++ (unflat b0 bs).drop nf).toArray := by
              apply Array.ext'; simp
            rw [this]
            exact hso.enter _ _
          rw [hex]
          have hvc := vals_unren (ks := s.ks) hmm hb1 ht1' s.ps y _ hwf'.2.1 hvals
          refine (hso.calls n cc _ c' r0 hF Ec w _ hfc (fun i hi => ⟨hβn i (by omega), hτn i (by omega)⟩) (fun i b hb => ?_) hg'.gl hvc).mono ?_
          · rw [hβc i (hlow i b hb)] at hb; exact hg'.lt _ b hb
          · rintro e' w' ⟨E', hch, hfr, ho, hx, hsl⟩
            obtain ⟨E2, hm2, hgn⟩ := hg'.mut (s := s.toM) hwf hn hlt hll hβc hβn hin (boxes_some s.ks s.ct cc c') hch hfr ho hx
            cases r0 with
            | inl x =>
              obtain ⟨v, rfl, hsl⟩ := hsl
              exact hk _ v E2 w' h (hgn.putS o.dst (ret_on hm2 hwf'.2.2.1 hsl) a rfl)
            | inr q =>
              obtain ⟨T, k, m⟩ := q
              have hsl : e' = .panicked [{ v := .iface T (.int k m), recovered := false }] := hsl
              subst hsl
              exact hp T k m _ E2 w' h hgn
        · cases h
      · cases h
    · cases h
  · cases h
theorem panO_ok {sp : Specs} (hsp : ∀ g s, sp g = some s → SoundX P C g s) {n : Nat} {o : Oper} {K : Ex → St → Option R} {Kn : St → Option R} {r : R} (h : panO sp n st o K Kn = some (some r)) : PanOK P C o st K Kn r := by
  unfold panO at h
  split at h
  · rename_i x ho
    have h := Option.some.inj h
    split at h
    · rename_i T k v hx
      intro m0 w0 E a w Kc Q hg hk hp
      obtain ⟨cs, hcs, hv⟩ := opd_ok hg.fr (fun _ _ => trivial) hx
      have hcs' : cs = [.iface T (.int k v)] := hcs
      subst hcs'
      have hv' : a.eval x = .iface T (.int k v) := hv
      have hex : (execOp a.eval o).run P w = .halt (.panic (.iface T (.int k v))) w := by
        unfold execOp
        simp only [ho, hv', Instr.panic, goPanic]
        rfl
      unfold Oper.wp
      rw [hex]
      exact hp T k v st E w h hg
    · cases h
  · rename_i c hoc
    split at h
    · rename_i f hcf
      unfold panK at h
      split at h
      · rename_i g nf b z hg
        split at h
        · rename_i l hs
          split at h
          · cases h
          · rename_i s hfind
            have hh := panH_ok (hsp g (.p l) hs s (List.mem_of_find?_eq_some hfind)) hoc hcf (Option.some.inj h)
            intro m0 w0 E a w Kc Q hg hk hp
            obtain ⟨E1, hg1⟩ := GR.frzL true _ E st hg
            exact hh m0 w0 E1 a w Kc Q hg1 hk hp
        · cases h
      · cases h
    · cases h
  · cases h
end
end Go.Proofs.YtedenojeljjnaaaGreatDoorPi

namespace Go.Proofs.YtedenojeljjnaaaGreatDoorPi
open Go
section
variable {P : Program} {C : Ctx} {m0 : Base} {w0 : World} {E : Env} {st : St} {a : Act} {w : World} {R : Type}
theorem zero_elt {t : Ty} {x : t.den} {l : List Value} {e : TypeId} {r : List Value} (h : ofCells t l = some (x, r)) : eltOf t e = e := by
  cases t <;> first | rfl | (simp [ofCells] at h)
theorem StepOK.frz {o : Oper} {st' : St} {p : Bool} {l : List Operand} (h : StepOK P C o (st.frzL p l) st') : StepOK P C o st st' := fun m0 w0 E a w Kc Q hg hkc => by
  obtain ⟨E1, hg1⟩ := GR.frzL p l E st hg
  exact h m0 w0 E1 a w Kc Q hg1 hkc
theorem stepF_ok {sp : Specs} (hsp : ∀ g s, sp g = some s → SoundX P C g s) {n : Nat} {o : Oper} {K : St → Option R} {r : R} (h : stepF P sp n st o K = some r) :
    ∃ st', K st' = some r ∧ StepOK P C o st st' := by
  have pure_ : (pureK P sp n st o fun s => K (st.put o.dst s)) = some r → ∃ st', K st' = some r ∧ StepOK P C o st st' := fun h => by
    obtain ⟨s, hs, hok⟩ := pureK_ok hsp h
    exact ⟨_, hs, hok.step⟩
  unfold stepF at h
  split at h
  · rename_i ty x ho
    split at h
    · rename_i e _
      split at h
      · rename_i inf y hinf htv
        split at h
        · rename_i hs
          split at h
          · rename_i hy
            refine ⟨_, h, fun m0 w0 E a w Kc Q hg hk => ?_⟩
            have hv := opdX_ok hg.fr (fun _ _ => trivial) htv
            have hrun : (execOp a.eval o).run P w = .ok (.value (.pointer (some ⟨w.heap.size, 0, none⟩))) { w with heap := w.heap.push (.cells (a.eval x).cells ty) } := by
              unfold execOp
              simp only [ho, Instr.box, newVar, newRow, Sem.run_bind, run_newObj, Sem.run_pure, Result.andThen_ok]
            unfold Oper.wp
            rw [hrun]
            have hcs : (a.eval x).cells = #[.pointer none, .slice none 0 0] := by
              obtain ⟨c1, c2, e1, r1, c3, c4, e2, r2, r3⟩ := hv.cells
              rcases r1 with ⟨_, r1⟩ | ⟨_, _, _, q, _⟩
              · have r2' : c3 = [.slice none 0 0] := r2
                have r3' : c4 = [] := r3
                apply Array.ext'
                rw [e1, r1, e2, r2', r3']; rfl
              · exact absurd (hy.symm.trans q) (by simp)
            obtain ⟨E', hg'⟩ := hg.newB (o := .cells (a.eval x).cells ty) (T := ty) (e := e) (by rw [hcs]) o.dst rfl
            exact hk _ E' _ hg'
          · cases h
        · cases h
      · cases h
    split at h
    · rename_i inf tv hinf htv
      split at h
      · rename_i hs
        refine ⟨_, h, fun m0 w0 E a w Kc Q hg hk => ?_⟩
        have hv := opdX_ok hg.fr (fun _ _ => trivial) htv
        have hrun : (execOp a.eval o).run P w = .ok (.value (.pointer (some ⟨w.heap.size, 0, none⟩))) { w with heap := w.heap.push (.cells (a.eval x).cells ty) } := by
          unfold execOp
          simp only [ho, Instr.box, newVar, newRow, Sem.run_bind, run_newObj, Sem.run_pure, Result.andThen_ok]
        unfold Oper.wp
        rw [hrun]
        obtain ⟨E', hg'⟩ := hg.box (o := .cells (a.eval x).cells ty) (cs := (a.eval x).cells.toList) (e := ty) (by simp) hs.2 hv.cells o.dst rfl
        exact hk _ E' _ hg'
      · cases h
    · cases h
  · rename_i ty ho
    split at h
    · rename_i e _
      split at h
      · rename_i inf hinf
        split at h
        · rename_i z hz
          split at h
          · rename_i hzb
            refine ⟨_, h, fun m0 w0 E a w Kc Q hg hk => ?_⟩
            have hrun : (execOp a.eval o).run P w = .ok (.value (.pointer (some ⟨w.heap.size, 0, none⟩))) { w with heap := w.heap.push (.cells z.cells ty) } := by
              unfold execOp
              simp only [ho, Instr.alloc, Sem.run_bind, run_zeroValue hinf hz, newVar, newRow, run_newObj, Sem.run_pure, Result.andThen_ok]
            unfold Oper.wp
            rw [hrun]
            have hcs : z.cells = #[.pointer none, .slice none 0 0] := by
              apply Array.ext'; rw [zeroB_ok hzb]
            obtain ⟨E', hg'⟩ := hg.newB (o := .cells z.cells ty) (T := ty) (e := e) (by rw [hcs]) o.dst rfl
            exact hk _ E' _ hg'
          · cases h
        · cases h
      · cases h
    split at h
    · rename_i t inf ht hinf
      split at h
      · rename_i z hz
        split at h
        · rename_i x hx
          refine ⟨_, h, fun m0 w0 E a w Kc Q hg hk => ?_⟩
          have hrun : (execOp a.eval o).run P w = .ok (.value (.pointer (some ⟨w.heap.size, 0, none⟩))) { w with heap := w.heap.push (.cells z.cells ty) } := by
            unfold execOp
            simp only [ho, Instr.alloc, Sem.run_bind, run_zeroValue hinf hz, newVar, newRow, run_newObj, Sem.run_pure, Result.andThen_ok]
          unfold Oper.wp
          rw [hrun]
          obtain ⟨E', hg'⟩ := hg.box (o := .cells z.cells ty) (cs := z.cells.toList) (e := ty) (tv := ⟨t, x⟩) (by simp) (zero_elt hx) (zero_rep E hx) o.dst rfl
          exact hk _ E' _ hg'
        · cases h
      · cases h
    · cases h
  · rename_i ty x v ho
    split at h
    · rename_i i q t u tv inf hx hv hinf
      split at h
      · rename_i c hc
        split at h
        · rename_i hs
          split at h
          · rename_i y hy
            refine ⟨_, h, fun m0 w0 E a w Kc Q hg hk => ?_⟩
            obtain ⟨b, hb, hpx⟩ := vrep_ptr (opd_ok hg.fr (fun _ _ => trivial) hx)
            obtain ⟨w', hrun', hg'⟩ := hg.store hc hy (opdX_ok hg.fr (fun _ _ => trivial) hv) hinf hs hb
            have hrun : (execOp a.eval o).run P w = .ok .skip w' := by
              unfold execOp
              simp only [ho, hpx, Instr.storeAt, Instr.sureAddr, Sem.run_bind, Sem.run_pure, Result.andThen_ok, hrun']
            unfold Oper.wp
            rw [hrun]
            have := hg'.putS o.dst (s := .undef) (v := undef) rfl a rfl
            rw [put_b] at this
            exact hk undef E w' this
          · cases h
        · cases h
      · cases h
    · rename_i k q u t i tv inf hx hv hinf
      split at h
      · rename_i e u' xs hc
        split at h
        · rename_i hs
          obtain ⟨hu, hs⟩ := hs
          subst hu
          obtain ⟨x0, hx0, h⟩ := bind_some h
          split at h
          · rename_i y hy
            refine ⟨_, h, fun m0 w0 E a w Kc Q hg hk => ?_⟩
            obtain ⟨b, hb, hpx⟩ := vrep_ep (opd_ok hg.fr (fun _ _ => trivial) hx)
            obtain ⟨w', hrun', hg'⟩ := hg.storeE hc hx0 hy (opdX_ok hg.fr (fun _ _ => trivial) hv) hinf hs hb
            have hrun : (execOp a.eval o).run P w = .ok .skip w' := by
              unfold execOp
              simp only [ho, hpx, Instr.storeAt, Instr.sureAddr, Sem.run_bind, Sem.run_pure, Result.andThen_ok, hrun']
            unfold Oper.wp
            rw [hrun]
            have := hg'.putS o.dst (s := .undef) (v := undef) rfl a rfl
            rw [put_b] at this
            exact hk undef E w' this
          · cases h
        · cases h
      · cases h
    · cases h
  · rename_i ty len parts ho
    exact litK_ok ho h
  · rename_i c ho
    split at h
    · rename_i hcb
      exact appendK_ok ho hcb h
    · rename_i f hcf
      split at h
      · rename_i q hq
        subst h
        exact inplK_ok hsp ho hcf hq
      · split at h
        · rename_i q hq
          subst h
          exact mutK_ok hsp ho hcf hq
        split at h
        · rename_i q hq
          subst h
          obtain ⟨st', hst, hok⟩ := ownK_ok hsp ho hcf hq
          exact ⟨st', hst, hok.frz⟩
        · obtain ⟨s, hs, hok⟩ := pureK_ok hsp h
          exact ⟨_, hs, hok.step.frz⟩
    · exact pure_ h
  · exact pure_ h

theorem stepK_ok {sp : Specs} (hsp : ∀ g s, sp g = some s → SoundX P C g s) {n : Nat} {o : Oper} {K : St → Option R} {r : R} (h : stepK P sp n st o K = some r) :
    ∃ st', K st' = some r ∧ StepOK P C o st st' := by
  obtain ⟨st', hk, hok⟩ := stepF_ok hsp h
  exact ⟨st', hk, hok.frz⟩

theorem guardK_ok {ops : Array Oper} {o : Oper} {K : Bool → Option R} {r : R} (h : guardK ops st o K = some r) :
    ∃ b, K b = some r ∧ ∀ (X : Nat → Prop) (E : Env) (tmps : Array Value) (w : World), FR X E st tmps w → (∀ j want t, o.guard = some (j, want) → (ops[j]?).bind (·.dst) = some t → X t) → Region.wanted o (yielded ops tmps) = b := by
  unfold guardK at h
  split at h
  · rename_i hg
    exact ⟨true, h, fun _ _ _ _ _ _ => by unfold Region.wanted; simp [hg]⟩
  · rename_i j want hg
    split at h
    · rename_i t ht
      have get : ∀ (X : Nat → Prop) (E : Env) (tmps : Array Value) (w : World) (s : Slot), FR X E st tmps w → X t → st.t[t]? = some s → ∃ v, tmps[t]? = some v ∧ SlotRep E s v := fun X E tmps w s hf hX hs => by
        have h1 := hf.slots t s hX hs
        have hlt : t < tmps.size := by rw [← hf.len]; exact (List.getElem?_eq_some_iff.1 hs).1
        refine ⟨tmps[t], Array.getElem?_eq_getElem hlt, ?_⟩
        rw [Array.getD_eq_getD_getElem?, Array.getElem?_eq_getElem hlt] at h1
        exact h1
      split at h
      · rename_i hs
        refine ⟨false, h, fun X E tmps w hf hX => ?_⟩
        obtain ⟨v, hv, rfl⟩ := get X E tmps w _ hf (hX _ _ _ hg ht) hs
        unfold Region.wanted yielded
        simp [hg, ht, hv, undef]
      · rename_i b hs
        have hw : ∀ (X : Nat → Prop) (E : Env) (tmps : Array Value) (w : World), FR X E st tmps w → X t → Region.wanted o (yielded ops tmps) = (b == want) := fun X E tmps w hf hX => by
          obtain ⟨v, hv, hr⟩ := get X E tmps w _ hf hX hs
          obtain rfl := vrep_bool hr
          unfold Region.wanted yielded
          simp [hg, ht, hv]
        rcases bif_some h with ⟨hb, h⟩ | ⟨hb, h⟩
        · exact ⟨true, h, fun X E tmps w hf hX => by rw [hw X E tmps w hf (hX _ _ _ hg ht), hb]⟩
        · exact ⟨false, h, fun X E tmps w hf hX => by rw [hw X E tmps w hf (hX _ _ _ hg ht), hb]⟩
      · cases h
    · cases h

theorem FR.know {X : Nat → Prop} {tmps : Array Value} {t : Tmp} {b : Bool} (h : FR X E st tmps w) (hv : tmps.getD t undef = .bool b) : FR X E (st.know t b) tmps w := by
  refine ⟨by show (st.t.set t _).length = _; rw [List.length_set]; exact h.len, fun i s hi hs => ?_, h.boxes, h.arrs, h.inj, h.inv⟩
  have hs' : (st.t.set t (.v ⟨.bool, b⟩))[i]? = some s := hs
  rw [List.getElem?_set] at hs'
  split at hs'
  · rename_i e; subst e
    split at hs'
    · obtain rfl := Option.some.inj hs'
      rw [hv]; exact mkBool _ _
    · cases hs'
  · exact h.slots i s hi hs'
theorem GR.know {t : Tmp} {b : Bool} {tmps : Array Value} (h : GR C m0 w0 E st tmps w) (hv : tmps.getD t undef = .bool b) : GR C m0 w0 E (st.know t b) tmps w := ⟨h.fr.know hv, h.chg, h.own, h.lt, h.top, h.gl, h.fx⟩
theorem GR.knowO {x : Operand} {b : Bool} (h : GR C m0 w0 E st a.tmps w) (hv : a.eval x = .bool b) : GR C m0 w0 E (st.knowO x b) a.tmps w := by
  unfold St.knowO
  split
  · exact h.know hv
  · exact h

theorem guardS_ok {ops : Array Oper} {o : Oper} {K : Bool → St → Option R} {r : R} (h : guardS ops st o K = some r) (hg : GR C m0 w0 E st a.tmps w) :
    ∃ b st', K b st' = some r ∧ GR C m0 w0 E st' a.tmps w ∧ Region.wanted o (yielded ops a.tmps) = b := by
  unfold guardS at h
  split at h
  · rename_i hg'
    exact ⟨true, st, h, hg, by unfold Region.wanted; simp [hg']⟩
  · rename_i j want hgd
    split at h
    · rename_i t ht
      have get : ∀ (s : Slot), st.t[t]? = some s → ∃ v, a.tmps[t]? = some v ∧ a.tmps.getD t undef = v ∧ SlotRep E s v := fun s hs => by
        have h1 := hg.fr.slots t s trivial hs
        have hlt : t < a.tmps.size := by rw [← hg.fr.len]; exact (List.getElem?_eq_some_iff.1 hs).1
        refine ⟨a.tmps[t], Array.getElem?_eq_getElem hlt, ?_, ?_⟩
        · rw [Array.getD_eq_getD_getElem?, Array.getElem?_eq_getElem hlt]; rfl
        · rw [Array.getD_eq_getD_getElem?, Array.getElem?_eq_getElem hlt] at h1
          exact h1
      split at h
      · rename_i hs
        obtain ⟨v, hv, _, rfl⟩ := get _ hs
        refine ⟨false, st, h, hg, ?_⟩
        unfold Region.wanted yielded
        simp [hgd, ht, hv, undef]
      · rename_i b hs
        obtain ⟨v, hv, hv', hr⟩ := get _ hs
        obtain rfl := vrep_bool hr
        have hw : Region.wanted o (yielded ops a.tmps) = (b == want) := by
          unfold Region.wanted yielded
          simp [hgd, ht, hv]
        rcases bif_some h with ⟨hb, h⟩ | ⟨hb, h⟩
        · exact ⟨_, _, h, hg.know (by rw [hv', hb]), by rw [hw, hb]⟩
        · exact ⟨_, _, h, hg.know (by rw [hv', hb]), by rw [hw, hb]⟩
      · cases h
    · cases h

theorem GR.put_undef (h : GR C m0 w0 E st a.tmps w) (d : Option Tmp) : GR C m0 w0 E (st.put d .undef) (a.put d undef).tmps w :=
  ⟨h.fr.put d (s := .undef) (v := undef) rfl a rfl, h.chg, h.own, h.lt, fun i hi => h.top i (by cases d <;> exact hi), h.gl, by cases d <;> exact h.fx⟩

theorem put_defers (a : Act) (d : Option Tmp) (v : Value) : (a.put d v).defers = a.defers := by cases d <;> rfl

theorem opsK_ok {sp : Specs} (hsp : ∀ g s, sp g = some s → SoundX P C g s) {n : Nat} {ops : Array Oper} {K : Ex → St → Option R} {r : R} {Q : Exit → Act → World → Prop} {ds : List Deferred}
    (hQ : ∀ e st' E' a' w', K e st' = some r → GR C m0 w0 E' st' a'.tmps w' → a'.defers = ds → Q e.out a' w') :
    ∀ (l : List Oper) (k : Nat) (st : St) (E : Env) (a : Act) (w : World), ops.toList.drop k = l → opsK P sp n ops l st K = some r → GR C m0 w0 E st a.tmps w → a.defers = ds →
      wpOps P ops Q (List.range' k l.length) a w
  | [], k, st, E, a, w, _, h, hg, hd => hQ .norm st E a w h hg hd
  | o :: l, k, st, E, a, w, hk, h, hg, hd => by
    have hko : ops[k]? = some o := by
      have : (ops.toList.drop k)[0]? = some o := by rw [hk]; rfl
      rw [List.getElem?_drop] at this
      simpa using this
    have hk' : ops.toList.drop (k + 1) = l := by
      rw [← List.drop_drop, hk]; rfl
    simp only [opsK] at h
    obtain ⟨b, st, hb, hg, hw'⟩ := guardS_ok h hg
    show wpOps P ops Q (k :: List.range' (k + 1) l.length) a w
    simp only [wpOps, hko]
    rw [hw']
    rcases bif_some hb with ⟨rfl, h2⟩ | ⟨rfl, h2⟩
    · rw [if_pos rfl]
      split at h2
      · rename_i x hx
        subst h2
        exact .inl (panO_ok hsp hx m0 w0 E a w _ Q hg (fun st' v E' w' hst hg' => opsK_ok hsp hQ l (k + 1) st' E' _ w' hk' hst hg' (by rw [put_defers]; exact hd)) (fun T q m st' E' w' hst hg' => hQ _ st' E' a w' hst hg' hd))
      · obtain ⟨st', hst', hok⟩ := stepK_ok hsp h2
        refine .inl (hok m0 w0 E a w _ Q hg fun v E' w' hg' => ?_)
        exact opsK_ok hsp hQ l (k + 1) st' E' _ w' hk' hst' hg' (by rw [put_defers]; exact hd)
    · rw [if_neg (by simp)]
      exact opsK_ok hsp hQ l (k + 1) _ E _ w hk' h2 (hg.put_undef o.dst) (by rw [put_defers]; exact hd)
end
end Go.Proofs.YtedenojeljjnaaaGreatDoorPi

namespace Go.Proofs.YtedenojeljjnaaaGreatDoorPi
open Go
section
variable {P : Program} {C : Ctx} {m0 : Base} {w0 : World} {R : Type}

theorem dimB_get {l : List Nat} : ∀ (b : List (Option Bx)) (i k : Nat) (c : Bx), (dimB l i b)[k]? = some (some c) → i + k ∈ l ∧ b[k]? = some (some c)
  | [], _, _, _, h => by simp [dimB] at h
  | x :: b, i, 0, c, h => by
    simp only [dimB, List.getElem?_cons_zero, Option.some.injEq] at h
    split at h
    · rename_i hl
      exact ⟨by simpa using hl, by simp [h]⟩
    · cases h
  | x :: b, i, k + 1, c, h => by
    simp only [dimB, List.getElem?_cons_succ] at h
    obtain ⟨h1, h2⟩ := dimB_get b (i + 1) k c h
    exact ⟨by rw [show i + (k + 1) = i + 1 + k by omega]; exact h1, by simpa using h2⟩


theorem on_bxs {p : Nat → Bool} : ∀ t : Ty, (∀ q, q ∈ t.bxs → p q = true) → t.on p = true
  | .unit, _ | .bool, _ | .int _, _ | .str, _ => rfl
  | .pair a b, h => by
    simp only [Ty.bxs, List.mem_append] at h
    simp [Ty.on, on_bxs a (fun q hq => h q (.inl hq)), on_bxs b (fun q hq => h q (.inr hq))]
  | .list t, h | .nl t, h | .ref t, h | .opt t, h | .fn _ _ t, h => by simp only [Ty.bxs] at h; simp [Ty.on, on_bxs t h]
  | .sl k t, h => by
    simp only [Ty.bxs, List.mem_cons] at h
    simp [Ty.on, h k (.inl rfl), on_bxs t (fun q hq => h q (.inr hq))]
  | .ptr i _ _, h | .ep i _ _ _, h => by simp only [Ty.bxs, List.mem_singleton] at h; simp [Ty.on, h i rfl]
  | .nif, _ => rfl
  | .ifi _ _, _ => rfl
  | .bld _ i k, h => by simp [Ty.on, h i (by simp [Ty.bxs]), h k (by simp [Ty.bxs])]
theorem bxs_on {p : Nat → Bool} : ∀ t : Ty, t.on p = true → ∀ q, q ∈ t.bxs → p q = true
  | .unit, _, _, hq | .bool, _, _, hq | .int _, _, _, hq | .str, _, _, hq => by cases hq
  | .pair a b, h, q, hq => by
    simp only [Ty.on, Bool.and_eq_true] at h
    simp only [Ty.bxs, List.mem_append] at hq
    exact hq.elim (bxs_on a h.1 q) (bxs_on b h.2 q)
  | .list t, h, q, hq | .nl t, h, q, hq | .ref t, h, q, hq | .opt t, h, q, hq | .fn _ _ t, h, q, hq => by simp only [Ty.on] at h; simp only [Ty.bxs] at hq; exact bxs_on t h q hq
  | .sl k t, h, q, hq => by
    simp only [Ty.on, Bool.and_eq_true] at h
    simp only [Ty.bxs, List.mem_cons] at hq
    rcases hq with rfl | hq
    · exact h.1
    · exact bxs_on t h.2 q hq
  | .nif, _, _, hq => by cases hq
  | .ifi _ _, _, _, hq => by cases hq
  | .bld _ i k, h, q, hq => by
    simp only [Ty.on, Bool.and_eq_true] at h
    simp only [Ty.bxs, List.mem_cons, List.not_mem_nil, or_false] at hq
    rcases hq with rfl | rfl
    · exact h.1
    · exact h.2
  | .ptr i _ _, h, q, hq | .ep i _ _ _, h, q, hq => by simp only [Ty.bxs, List.mem_singleton] at hq; subst hq; exact h
theorem offS_keep {p : Nat → Bool} {s : Slot} (h : ∀ q, q ∈ s.bxs → p q = true) : offS p s = s := by
  cases s with
  | v x => simp only [offS]; rw [if_pos (on_bxs x.t h)]
  | tup t x => simp only [offS]; rw [if_pos (on_bxs t h)]
  | _ => rfl
theorem offS_or (p : Nat → Bool) (s : Slot) : offS p s = .junk ∨ (offS p s = s ∧ ∀ q, q ∈ s.bxs → p q = true) := by
  cases s with
  | v x =>
    simp only [offS]
    split
    · rename_i h; exact .inr ⟨rfl, bxs_on x.t h⟩
    · exact .inl rfl
  | tup t x =>
    simp only [offS]
    split
    · rename_i h; exact .inr ⟨rfl, bxs_on t h⟩
    · exact .inl rfl
  | junk => exact .inl rfl
  | undef => exact .inr ⟨rfl, fun q hq => by cases hq⟩
theorem offB_keep {p : Nat → Bool} {c : Bx} (h : ∀ q, q ∈ c.bxs → p q = true) : offB p (some c) = some c := by
  cases c with
  | one x => simp only [offB]; rw [if_pos (on_bxs x.t h)]
  | arr e t xs => simp only [offB]; rw [if_pos (on_bxs t h)]
theorem offB_some {p : Nat → Bool} {o : Option Bx} {c : Bx} (h : offB p o = some c) : o = some c := by
  cases c with
  | one x => exact (offB_one h).1
  | arr e t xs => exact (offB_arr h).1

/-- What an operation with an effect does, whatever the slots that it does not look at hold. -/
def EffOK (P : Program) (C : Ctx) (o : Oper) (st : St) (f : Eff) : Prop :=
  ∀ (m0 : Base) (w0 : World) (E : Env) (a : Act) (w : World) (st2 : St) (Kc : Act → World → Prop) (Q : Exit → Act → World → Prop), FR (· ∈ reads o) E st a.tmps w → st2.b = st.b → GR C m0 w0 E st2 a.tmps w →
    (∀ v E' w', GR C m0 w0 E' (f.ap o.dst st2) (a.put o.dst v).tmps w' → Kc (a.put o.dst v) w') → o.wp P a w Kc Q

/-- What makes a variable. -/
def AlOK (P : Program) (o : Oper) (tv : TV) : Prop := ∃ ty inf z, o.op = .alloc ty ∧ o.guard = none ∧ o.dst.isSome = true ∧ P.info? ty = some inf ∧ inf.zero = some z ∧ eltOf tv.t ty = ty ∧ ∀ E, rep E tv.t tv.x z.cells.toList
def NotAl (o : Oper) : Prop := ∀ ty, o.op ≠ .alloc ty
/-- What an operation that gives one box another content does, whatever all else holds. -/
def EffS (P : Program) (C : Ctx) (o : Oper) (st : St) (i : Nat) (bx : Bx) : Prop :=
  ∀ (m0 : Base) (w0 : World) (E : Env) (a : Act) (w : World) (st2 : St) (Kc : Act → World → Prop) (Q : Exit → Act → World → Prop), FR (· ∈ reads o) E ⟨st.t, []⟩ a.tmps w → st2.b[i]? = st.b[i]? → GR C m0 w0 E st2 a.tmps w →
    (∀ v w', GR C m0 w0 E ((Eff.set i bx).ap o.dst st2) (a.put o.dst v).tmps w' → Kc (a.put o.dst v) w') → o.wp P a w Kc Q
theorem EffS.ok {o : Oper} {st : St} {i : Nat} {bx : Bx} (h : EffS P C o st i bx) : EffOK P C o st (.set i bx) := fun m0 w0 E a w st2 Kc Q hf h2 hg hk =>
  h m0 w0 E a w st2 Kc Q ⟨hf.len, hf.slots, fun i tv hi => by simp at hi, fun i e t xs hi => by simp at hi, hf.inj, hf.inv⟩ (by rw [h2]) hg fun v w' hg' => hk v E w' hg'
theorem storeS_ok {st : St} {o : Oper} {ty : TypeId} {x v : Operand} {K : Eff → Option R} {r : R} (ho : o.op = .store ty x v) (h : storeE P st ty x v K = some r) : ∃ i bx, K (.set i bx) = some r ∧ EffS P C o st i bx := by
  have hR : ∀ {x : Operand}, x ∈ o.op.operands → ∀ u, x = .tmp u → u ∈ reads o := fun hx => reads_mem hx
  unfold storeE at h
  split at h
  · rename_i i q t u tv inf hx hv hinf
    split at h
    · rename_i c hc
      split at h
      · rename_i hs
        split at h
        · rename_i y hy
          refine ⟨_, _, h, fun m0 w0 E a w st2 Kc Q hf h2 hg hk => ?_⟩
          obtain ⟨b, hb, hpx⟩ := vrep_ptr (opd_ok (st := ⟨st.t, []⟩) hf (hR (by simp [ho, Op.operands])) hx)
          obtain ⟨w', hrun', hg'⟩ := hg.store (by rw [h2]; exact hc) hy (opdX_ok (st := ⟨st.t, []⟩) hf (hR (by simp [ho, Op.operands])) hv) hinf hs hb
          have hrun : (execOp a.eval o).run P w = .ok .skip w' := by
            unfold execOp
            simp only [ho, hpx, Instr.storeAt, Instr.sureAddr, Sem.run_bind, Sem.run_pure, Result.andThen_ok, hrun']
          unfold Oper.wp
          rw [hrun]
          have := hg'.putS o.dst (s := .undef) (v := undef) rfl a rfl
          rw [put_b] at this
          exact hk undef w' this
        · cases h
      · cases h
    · cases h
  · rename_i k q u t i tv inf hx hv hinf
    split at h
    · rename_i e u' xs hc
      split at h
      · rename_i hs
        obtain ⟨hu, hs⟩ := hs
        subst hu
        obtain ⟨x0, hx0, h⟩ := bind_some h
        split at h
        · rename_i y hy
          refine ⟨_, _, h, fun m0 w0 E a w st2 Kc Q hf h2 hg hk => ?_⟩
          obtain ⟨b, hb, hpx⟩ := vrep_ep (opd_ok (st := ⟨st.t, []⟩) hf (hR (by simp [ho, Op.operands])) hx)
          obtain ⟨w', hrun', hg'⟩ := hg.storeE (by rw [h2]; exact hc) hx0 hy (opdX_ok (st := ⟨st.t, []⟩) hf (hR (by simp [ho, Op.operands])) hv) hinf hs hb
          have hrun : (execOp a.eval o).run P w = .ok .skip w' := by
            unfold execOp
            simp only [ho, hpx, Instr.storeAt, Instr.sureAddr, Sem.run_bind, Sem.run_pure, Result.andThen_ok, hrun']
          unfold Oper.wp
          rw [hrun]
          have := hg'.putS o.dst (s := .undef) (v := undef) rfl a rfl
          rw [put_b] at this
          exact hk undef w' this
        · cases h
      · cases h
    · cases h
  · cases h

theorem litE_ok {st : St} {ty : TypeId} {len : Nat} {parts : Array (Nat × Operand)} {o : Oper} {K : Eff → Option R} {r : R} (ho : o.op = .buildSlice ty len parts) (h : litE P st ty len parts.toList K = some r) : ∃ f, K f = some r ∧ isSet f = false ∧ EffOK P C o st f := by
  unfold litE at h
  split at h
  · rename_i e hu
    split at h
    · rename_i t inf ht hinf
      split at h
      · rename_i hs
        split at h
        · rename_i z hz
          split at h
          · rename_i x0 hx0
            split at h
            · rename_i x hx
              refine ⟨_, h, rfl, fun m0 w0 E a w st2 Kc Q hf h2 hg hk => ?_⟩
              have r0 : rep E (many len t) x0 (if len * inf.size = 0 then [] else ((Array.range (len * inf.size)).map (z.cells[· % z.cells.size]!)).toList) := by
                obtain ⟨c, e', q⟩ := ofCells_ok E _ _ _ _ hx0
                rw [List.append_nil] at e'
                rw [e']; exact q
              obtain ⟨cs', hr', hfill⟩ := setParts_ok (place' := fun i => some (i * inf.size, inf.size)) hf (fun i o n u hpl => by
                simp only [Option.some.injEq, Prod.mk.injEq] at hpl
                obtain ⟨rfl, rfl, _⟩ := hpl
                rfl) parts.toList x0 x _ (fun p hp u hu => reads_mem (by
                  simp only [ho, Op.operands, List.mem_toArray, List.mem_map]
                  exact ⟨p, hp, rfl⟩) u hu) hx r0
              obtain ⟨hreps, hcl⟩ := chain_reps len x cs' hr'
              have hsz := reps_length _ _ hreps
              have hrun : (Instr.buildSlice ty len (parts.map fun (i, x) => (i, a.eval x))).run P w = .ok (.slice (some ⟨w.heap.size, 0, none⟩) len len) { w with heap := w.heap.push (.cells cs'.toArray e) } := by
                unfold Instr.buildSlice
                simp only [Sem.run_bind, run_underlying hu, Result.andThen_ok, run_sizeOf' hinf]
                rw [if_neg hs.2.2]
                by_cases h0 : len * inf.size = 0
                · rw [if_pos h0] at hfill ⊢
                  have hinit : (Array.range (len * inf.size)).map ((#[] : Array Value)[· % (#[] : Array Value).size]!) = ([] : List Value).toArray := by
                    rw [h0]; simp
                  simp only [Sem.run_bind, Sem.run_pure, Result.andThen_ok]
                  rw [hinit, Array.toList_map, hfill]
                  simp only [newRow, Sem.run_bind, run_newObj, Sem.run_pure, Result.andThen_ok]
                · rw [if_neg h0] at hfill ⊢
                  rw [Array.toArray_toList] at hfill
                  simp only [Sem.run_bind, run_zeroValue hinf hz, Sem.run_pure, Result.andThen_ok]
                  rw [Array.toList_map, hfill]
                  simp only [newRow, Sem.run_bind, run_newObj, Sem.run_pure, Result.andThen_ok]
              have hex : (execOp a.eval o).run P w = .ok (.value (.slice (some ⟨w.heap.size, 0, none⟩) len len)) { w with heap := w.heap.push (.cells cs'.toArray e) } := by
                unfold execOp
                simp only [ho]
                rw [Sem.run_bind, hrun]; rfl
              have hlen : len ≤ maxLen := by
                have h1 := hs.2.2
                have h2 : len * 1 ≤ len * inf.size := Nat.mul_le_mul_left _ hs.2.1
                unfold maxLen; omega
              obtain ⟨E', hle, hb, hτ, hg'⟩ := hg.new (bx := .arr e t (chain len t x)) (nβ := some w.heap.size) (nτ := some (.slice (some ⟨w.heap.size, 0, none⟩) len len)) (push_chg (.cells cs'.toArray e)) (fun b hb => by obtain rfl := Option.some.inj hb; simp) (fun E' hle hm hb ht hnone =>
                ⟨_, cs', ht, by
                  rw [hcl]
                  have := World.ownsRow_lit (base := 0) (e := e) (size := t.size) w cs'.toArray len (Nat.zero_le _) hlen (by rw [List.size_toArray, hsz, hcl])
                  exact this, reps_mono hle _ _ hreps, hb, fun g j q => by obtain rfl := Option.some.inj q; rw [hm]; exact hnone j⟩)
              unfold Oper.wp
              rw [hex]
              have := hg'.putS o.dst (s := .v ⟨.sl st2.b.length t, ()⟩) (v := .slice (some ⟨w.heap.size, 0, none⟩) len len) ⟨[_], ⟨_, _, _, hτ, rfl⟩, rfl⟩ a rfl
              rw [put_b] at this
              refine hk _ E' _ ?_
              show GR C m0 w0 E' { (st2.put o.dst (.v ⟨.sl st.b.length t, ()⟩)) with b := st2.b ++ [some _] } _ _
              rw [← h2]; exact this
            · cases h
          · cases h
        · cases h
      · cases h
    · cases h
  · cases h

theorem appE_ok {e : TypeId} {t : Ty} {k : Nat} {xs ys : List t.den} {K : List t.den → Option R} {r : R} {ty : TypeId} (hu : P.underlying ty = some (.slice e)) (h : appE P e t k xs ys K = some r) :
    K (xs ++ ys) = some r ∧ ∀ (m0 : Base) (w0 : World) (E : Env) (a : Act) (w : World) (st : St) (v vy : Value) (ty' : TypeId) (d : Option Tmp), GR C m0 w0 E st a.tmps w → st.b[k]? = some (some (.arr e t xs)) → E.τ k = some v → VRep E (.list t) ys vy →
      ∃ v' w' E', (Builtin.append_ #[ty, ty] ty' #[v, vy]).run P w = .ok v' w' ∧ GR C m0 w0 E' ((Eff.app k e t (xs ++ ys)).ap d st) (a.put d v').tmps w' := by
  unfold appE at h
  split at h
  · rename_i inf hinf
    split at h
    · rename_i z hz
      split at h
      · rename_i hc
        obtain ⟨hon, hs1, hs2, hs3⟩ := hc
        rcases bif_some h with ⟨hbd, h⟩ | ⟨_, h⟩
        · have hbd' : (xs.length + ys.length) * (inf.bytes + 1) ≤ 140737488355328 := by simpa using hbd
          refine ⟨h, fun m0 w0 E a w st v vy ty' d hg hb hτ hv => ?_⟩
          obtain ⟨v2, l, hτ2, ho, hr, hβ, hm⟩ := hg.fr.arrs k e t xs hb
          obtain rfl : v = v2 := Option.some.inj (hτ.symm.trans hτ2)
          have hk : k < st.b.length := (List.getElem?_eq_some_iff.1 hb).1
          have fin : ∀ v' w' news, reps E t ys news → (Builtin.append_ #[ty, ty] ty' #[v, vy]).run P w = .ok v' w' → w'.ownsRow 0 e t.size v' (xs.length + ys.length) (l ++ news) → w.grownBy w' v.ownBlock → w.drawn ≤ w'.drawn → (v'.ownBlock = v.ownBlock ∨ v'.ownBlock = some w.heap.size) →
              ∃ v' w' E', (Builtin.append_ #[ty, ty] ty' #[v, vy]).run P w = .ok v' w' ∧ GR C m0 w0 E' ((Eff.app k e t (xs ++ ys)).ap d st) (a.put d v').tmps w' := fun v' w' news hn hrun q1 q2 q3 q4 => by
            obtain ⟨E', ht', hg'⟩ := hg.app hk hon hβ hm hr hn q1 q2 q3 q4
            refine ⟨v', w', E', hrun, hg'.putS d ?_ a rfl⟩
            rcases q1.2 with ⟨rfl, _⟩ | ⟨g, cap, cur, rfl, _⟩
            · exact ⟨[_], ⟨none, 0, 0, ht', rfl⟩, rfl⟩
            · exact ⟨[_], ⟨_, _, _, ht', rfl⟩, rfl⟩
          rcases list_val hv with ⟨rfl, rfl⟩ | ⟨ad, cap, news, rfl, hnr, hnc⟩
          · have hrun := run_append_owned_none (P := P) w 0 ty ty' e inf t.size hu hinf v _ l ho
            exact fin v w [] rfl hrun (by simpa using ho) ⟨rfl, rfl, rfl, Nat.le_refl _, fun _ _ _ => rfl⟩ (Nat.le_refl _) (.inl rfl)
          · obtain ⟨v', w', hrun, q1, q2, q3, q4⟩ := app_run (P := P) (w := w) (ty := ty') (m := ys.length) (c := cap) (ad := ad) hu hinf hz hs1 (hs2.trans hs1) (hs1 ▸ hs3) ho (reps_length _ _ hnr) (fun j u hj => by
              obtain ⟨q, e1, e2⟩ := hnc j u hj
              rw [e1]; exact hg.fr.inv _ _ _ e2) (reps_oneCell _ _ hnr) hbd'
            exact fin v' w' news hnr hrun q1 q2 q3 q4
        · cases h
      · cases h
    · cases h
  · cases h

theorem appendE_ok {st : St} {o : Oper} {c : Call} {K : Eff → Option R} {r : R} (ho : o.op = .call c) (hcb : c.callee = .builtin .append) (h : appendE P st c K = some r) : ∃ f, K f = some r ∧ isSet f = false ∧ EffOK P C o st f := by
  unfold appendE at h
  split at h
  · rename_i s x ty ty' hargs htys
    split at h
    · rename_i hty
      subst hty
      split at h
      · rename_i e hu
        have ha : ∀ a : Act, c.args.map a.eval = #[a.eval s, a.eval x] := fun a => by
          apply Array.ext'; simp [hargs]
        have hty' : c.argTypes = #[ty, ty] := by apply Array.ext'; simp [htys]
        have hargs' : c.args = #[s, x] := by apply Array.ext'; simp [hargs]
        have hRs : ∀ u, s = .tmp u → u ∈ reads o := reads_mem (by simp [ho, Op.operands, Call.operands, hcb, hargs'])
        have hRx : ∀ u, x = .tmp u → u ∈ reads o := reads_mem (by simp [ho, Op.operands, Call.operands, hcb, hargs'])
        have hex : ∀ (a : Act) (w w' : World) (v' : Value), (Builtin.append_ #[ty, ty] o.type #[a.eval s, a.eval x]).run P w = .ok v' w' → (execOp a.eval o).run P w = .ok (.value v') w' := fun a w w' v' hrun => by
          unfold execOp
          simp only [ho, resolve, hcb, ha, hty', Sem.run_bind, Sem.run_pure, Result.andThen_ok, invoke, builtin, hrun]
        split at h
        · rename_i k t y tx hs hx
          split at h
          · rename_i ys e' t' xs hys hb
            split at h
            · rename_i he
              subst he
              split at h
              · rename_i xs2 hcast
                have hlist : (⟨.list t', xs⟩ : TV) = ⟨.list t, xs2⟩ := by
                  unfold castTV at hcast
                  split at hcast
                  · rename_i hh
                    simp only [Ty.list.injEq] at hh
                    subst hh
                    simp only [Option.some.injEq] at hcast
                    rw [hcast]
                  · simp [castU] at hcast
                simp only [TV.mk.injEq, Ty.list.injEq] at hlist
                obtain ⟨rfl, hx2⟩ := hlist
                obtain rfl := eq_of_heq hx2
                obtain ⟨hst, hok⟩ := appE_ok (C := C) hu h
                refine ⟨_, hst, rfl, fun m0 w0 E a w st2 Kc Q hf h2 hg hk => ?_⟩
                have hsv := opdN_ok hf hRs hs
                obtain ⟨A, n, cap, hv, hτ⟩ := vrep_sl hsv
                obtain ⟨v', w', E', hrun, hg'⟩ := hok m0 w0 E a w st2 (a.eval s) (a.eval x) o.type o.dst hg (by rw [h2]; exact hb) (by rw [hv]; exact hτ) (castTV_ok hys (opdN_ok hf hRx hx))
                unfold Oper.wp
                rw [hex a w w' v' hrun]
                exact hk v' E' w' hg'
              · cases h
            · cases h
          · cases h
        · rename_i t y tx hs hx
          split at h
          · rename_i ys hys
            obtain ⟨hst, hok⟩ := appE_ok (C := C) hu h
            refine ⟨_, hst, rfl, fun m0 w0 E a w st2 Kc Q hf h2 hg hk => ?_⟩
            have hsv := vrep_nl (opdN_ok hf hRs hs)
            obtain ⟨E1, hle, hτ, hg1⟩ := hg.nil e t
            have hxv := (castTV_ok hys (opdN_ok hf hRx hx)).mono hle
            have hbl : st2.b.length = st.b.length := by rw [h2]
            obtain ⟨v', w', E', hrun, hg'⟩ := hok m0 w0 E1 a w _ (a.eval s) (a.eval x) o.type o.dst hg1 (by
              show (st2.b ++ [some (.arr e t [])])[st.b.length]? = _
              rw [List.getElem?_append_right (by omega)]; simp [hbl]) (by rw [hsv, ← hbl]; exact hτ) hxv
            unfold Oper.wp
            rw [hex a w w' v' hrun]
            refine hk v' E' w' ?_
            show GR C m0 w0 E' ((Eff.napp e t ([] ++ ys)).ap o.dst st2) _ _
            have e1 : (Eff.napp e t ([] ++ ys)).ap o.dst st2 = (Eff.app st.b.length e t ([] ++ ys)).ap o.dst (st2.fresh e t) := by rw [← hbl]; rfl
            rw [e1]; exact hg'
          · cases h
        · cases h
      · cases h
    · cases h
  · cases h

/-- What an effect's operation does. -/
def EffP (P : Program) (C : Ctx) (o : Oper) (st : St) (f : Eff) : Prop := EffOK P C o st f ∧ NotAl o ∧ ∀ i bx, f = .set i bx → EffS P C o st i bx
theorem effK_ok {ops : Array Oper} {st : St} {o : Oper} {K : Eff → Option R} {r : R} (h : effK P ops st o K = some (some r)) : ∃ f, K f = some r ∧ EffP P C o st f := by
  unfold effK at h
  split at h
  · rename_i ty a x ho
    obtain ⟨i, bx, hk, hs⟩ := storeS_ok (C := C) ho (Option.some.inj h)
    exact ⟨_, hk, hs.ok, fun ty h => (by rw [ho] at h; cases h), fun i' bx' e => by cases e; exact hs⟩
  · rename_i ty len parts ho
    split at h
    · split at h
      · obtain ⟨f, hk, hf, hs⟩ := litE_ok (C := C) ho (Option.some.inj h)
        exact ⟨f, hk, hs, fun ty h => (by rw [ho] at h; cases h), fun i bx e => by rw [e] at hf; cases hf⟩
      · cases h
    · cases h
  · rename_i c ho
    split at h
    · rename_i hcb
      obtain ⟨f, hk, hf, hs⟩ := appendE_ok (C := C) ho hcb (Option.some.inj h)
      exact ⟨f, hk, hs, fun ty h => (by rw [ho] at h; cases h), fun i bx e => by rw [e] at hf; cases hf⟩
    · cases h
  · cases h
/-- What any other operation does. -/
def OkP (P : Program) (C : Ctx) (ops : Array Oper) (al : List (Nat × Nat × TV)) (o : Oper) (st : St) (s : Slot) : Prop := (OpOK P C o st s ∧ NotAl o) ∨ ∃ q ∈ al, ops[q.1]? = some o ∧ AlOK P o q.2.2 ∧ s = .v ⟨.ptr q.2.1 0 q.2.2.t, ()⟩
theorem alsK_ok : ∀ (l : List Oper) (j k : Nat) (al : List (Nat × Nat × TV)), alsK P l j k = some al → (∀ i q, al[i]? = some q → q.2.1 = k + i ∧ j ≤ q.1 ∧ ∃ o, l[q.1 - j]? = some o ∧ AlOK P o q.2.2) ∧ al.Pairwise (fun a b => a.1 < b.1)
  | [], _, _, al, h => by
    simp only [alsK, Option.some.injEq] at h
    subst h
    exact ⟨fun i q hi => by simp at hi, .nil⟩
  | o :: r, j, k, al, h => by
    have skip : ∀ al, alsK P r (j + 1) k = some al → (∀ i q, al[i]? = some q → q.2.1 = k + i ∧ j ≤ q.1 ∧ ∃ o', (o :: r)[q.1 - j]? = some o' ∧ AlOK P o' q.2.2) ∧ al.Pairwise (fun a b => a.1 < b.1) := fun al h => by
      obtain ⟨h1, h2⟩ := alsK_ok r (j + 1) k al h
      refine ⟨fun i q hi => ?_, h2⟩
      obtain ⟨e, hj, o', ho', ha⟩ := h1 i q hi
      exact ⟨e, by omega, o', by rw [show q.1 - j = (q.1 - (j + 1)) + 1 by omega]; exact ho', ha⟩
    unfold alsK at h
    split at h
    · rename_i ty ho
      split at h
      · rename_i t inf _ ht hinf
        split at h
        · rename_i z hz
          split at h
          · rename_i x hx
            split at h
            · rename_i hg
              split at h
              · rename_i l hl
                obtain rfl := Option.some.inj h
                obtain ⟨h1, h2⟩ := alsK_ok r (j + 1) (k + 1) l hl
                refine ⟨fun i q hi => ?_, .cons (fun q hq => ?_) h2⟩
                · cases i with
                  | zero =>
                    simp only [List.getElem?_cons_zero, Option.some.injEq] at hi
                    subst hi
                    refine ⟨rfl, Nat.le_refl _, o, by simp, ty, inf, z, ho, by simpa using hg.1, hg.2, hinf, hz, zero_elt hx, fun E => zero_rep E hx⟩
                  | succ i =>
                    simp only [List.getElem?_cons_succ] at hi
                    obtain ⟨e, hj, o', ho', ha⟩ := h1 i q hi
                    exact ⟨by omega, by omega, o', by rw [show q.1 - j = (q.1 - (j + 1)) + 1 by omega]; exact ho', ha⟩
                · obtain ⟨i, hi⟩ := List.mem_iff_getElem?.1 hq
                  obtain ⟨_, hj, _⟩ := h1 i q hi
                  exact hj
              · cases h
            · cases h
          · cases h
        · cases h
      · cases h
    · exact skip al h

theorem guardK_bxs {ops : Array Oper} {st : St} {o : Oper} {K : Bool → Option R} {r : R} (h : guardK ops st o K = some r) : ∀ g want t s, o.guard = some (g, want) → (ops[g]?).bind (·.dst) = some t → st.t[t]? = some s → s.bxs = [] := by
  intro g want t s hg ht hs
  unfold guardK at h
  rw [hg] at h
  simp only [ht, hs] at h
  split at h
  · rename_i e; obtain rfl := Option.some.inj e; rfl
  · rename_i e; obtain rfl := Option.some.inj e; rfl
  · cases h
theorem know_id {st : St} {t : Tmp} {b : Bool} (h : st.t[t]? = some (.v ⟨.bool, b⟩)) : st.know t b = st := by
  unfold St.know
  have : st.t.set t (.v ⟨.bool, b⟩) = st.t := by
    apply List.ext_getElem?
    intro i
    rw [List.getElem?_set]
    split
    · rename_i e; subst e
      split
      · exact h.symm
      · rename_i hn; rw [List.getElem?_eq_none (by omega)]
    · rfl
  rw [this]
theorem know_id' {st : St} {t : Tmp} {b : Bool} (h : st.t[t]? = some (.v ⟨.bool, b⟩)) {K : Bool → St → Option R} {want : Bool} : (bif b then K (true == want) (st.know t true) else K (false == want) (st.know t false)) = (bif b then K (true == want) st else K (false == want) st) := by
  cases b with
  | true => rw [cond_true, cond_true, know_id h]
  | false => rw [cond_false, cond_false, know_id h]
theorem guardS_K {ops : Array Oper} {st : St} {o : Oper} {K : Bool → St → Option R} {r : R} (h : guardS ops st o K = some r) : guardK ops st o (fun b => K b st) = some r := by
  cases hg : o.guard with
  | none =>
    simp only [guardS, hg] at h
    simp only [guardK, hg]
    exact h
  | some p =>
    obtain ⟨j, want⟩ := p
    cases ht : (ops[j]?).bind (·.dst) with
    | none => simp [guardS, hg, ht] at h
    | some t =>
      cases hs : st.t[t]? with
      | none => simp [guardS, hg, ht, hs] at h
      | some s =>
        have key : ∀ b : Bool, s = .v ⟨.bool, b⟩ → guardK ops st o (fun b => K b st) = some r := by
          rintro b rfl
          simp only [guardS, hg, ht, hs] at h
          simp only [guardK, hg, ht, hs]
          rw [know_id' hs] at h
          cases b <;> cases want <;> exact h
        cases s with
        | undef =>
          simp only [guardS, hg, ht, hs] at h
          simp only [guardK, hg, ht, hs]
          exact h
        | junk => simp [guardS, hg, ht, hs] at h
        | tup u x => simp [guardS, hg, ht, hs] at h
        | v x =>
          obtain ⟨u, x⟩ := x
          cases u with
          | bool => exact key x rfl
          | _ => simp [guardS, hg, ht, hs] at h
theorem guardK_dim {ops : Array Oper} {st : St} {l : List Nat} {o : Oper} {K : Bool → Option R} : guardK ops (st.dim l) o K = guardK ops st o K := rfl

structure Trace (Ok : Oper → St → Slot → Prop) (EO : Oper → St → Eff → Prop) (ops : Array Oper) (k : Nat) (S : Nat → Slot) (T : Nat → St) (L : Nat → List Nat) (F : Nat → Option Eff) : Prop where
  step : ∀ j o, k ≤ j → ops[j]? = some o → ∃ b,
    ((b = false ∧ F j = none ∧ S j = .undef ∧ T (j + 1) = (T j).put o.dst .undef) ∨
      (b = true ∧ F j = none ∧ T (j + 1) = (T j).put o.dst (S j) ∧ Ok o ((T j).dim (seen ops (T j) o)) (S j) ∧ L j = seesL ops (T j) o ++ (S j).bxs) ∨
      (b = true ∧ ∃ f, F j = some f ∧ S j = f.slot (T j) ∧ T (j + 1) = f.ap o.dst (T j) ∧ EO o (T j) f ∧ L j = seesL ops (T j) o ++ (f.box (T j) :: (f.slot (T j)).bxs))) ∧
    ∀ (X : Nat → Prop) (E : Env) (tmps : Array Value) (w : World), FR X E ((T j).dim []) tmps w → (∀ g want t, o.guard = some (g, want) → (ops[g]?).bind (·.dst) = some t → X t) → Region.wanted o (yielded ops tmps) = b
  gd : ∀ j o, k ≤ j → ops[j]? = some o → ∀ g want t s, o.guard = some (g, want) → (ops[g]?).bind (·.dst) = some t → (T j).t[t]? = some s → s.bxs = []

theorem put_bb (st : St) (d : Option Tmp) (s : Slot) : (st.put d s).b = st.b := by cases d <;> rfl

/-- The log's row of an operation. -/
def lgOf (T : Nat → St) (L : Nat → List Nat) (F : Nat → Option Eff) (j : Nat) : Lg := ⟨j, L j, (F j).map fun f => f.box (T j)⟩

theorem opsP_ok {sp : Specs} (hsp : ∀ g s, sp g = some s → SoundX P C g s) {n : Nat} {ops : Array Oper} {al : List (Nat × Nat × TV)} (hal : ∀ q ∈ al, ∃ o, ops[q.1]? = some o ∧ AlOK P o q.2.2) {K : St → Option R} {r : R} :
    ∀ (l : List Oper) (k : Nat) (st : St) (g : List Lg), ops.toList.drop k = l → k ≤ ops.size → opsP P sp n ops al l k st g K = some r →
      ∃ S T L F G, T k = st ∧ K (T ops.size) = some r ∧ Trace (OkP P C ops al) (fun o st f => EffP P C o st f ∧ okE al f = true) ops k S T L F ∧ (logOk ops (G ++ g) = true ∧ alOk ops al (G ++ g) = true) ∧ (∀ j, k ≤ j → j < ops.size → (L j = [] ∧ F j = none) ∨ lgOf T L F j ∈ G) ∧ (∀ x, x ∈ G → k ≤ x.j) ∧ (effs G).Pairwise (fun x y => y < x)
  | [], k, st, g, hk, hle, h => by
    have hlen : ops.size ≤ k := by
      have : (ops.toList.drop k).length = 0 := by rw [hk]; rfl
      simp at this; omega
    simp only [opsP] at h
    split at h
    · rename_i hg
      refine ⟨fun _ => .junk, fun _ => st, fun _ => [], fun _ => none, [], rfl, h, ⟨fun j o hj ho => ?_, fun j o hj ho => ?_⟩, hg, fun j h1 h2 => by omega, fun _ h => by (cases h), by simp [effs]⟩
      all_goals
        have := (Array.getElem?_eq_some_iff.1 ho).1
        omega
    · cases h
  | o :: l, k, st, g, hk, hle, h => by
    have hko : ops[k]? = some o := by
      have : (ops.toList.drop k)[0]? = some o := by rw [hk]; rfl
      rw [List.getElem?_drop] at this
      simpa using this
    have hlt : k < ops.size := (Array.getElem?_eq_some_iff.1 hko).1
    have hk' : ops.toList.drop (k + 1) = l := by
      rw [← List.drop_drop, hk]; rfl
    simp only [opsP] at h
    have h := guardS_K h
    rw [← guardK_dim (l := [])] at h
    have hgd := guardK_bxs h
    obtain ⟨b, hb, hw⟩ := guardK_ok h
    have fin : ∀ (s : Slot) (st' : St) (lk : List Nat) (fk : Option Eff) (g1 : List Lg), opsP P sp n ops al l (k + 1) st' (g1 ++ g) K = some r → (g1 = [] ∧ lk = [] ∧ fk = none ∨ g1 = [⟨k, lk, fk.map fun f => f.box st⟩]) →
        ((b = false ∧ fk = none ∧ s = .undef ∧ st' = st.put o.dst .undef) ∨
          (b = true ∧ fk = none ∧ st' = st.put o.dst s ∧ OkP P C ops al o (st.dim (seen ops st o)) s ∧ lk = seesL ops st o ++ s.bxs) ∨
          (b = true ∧ ∃ f, fk = some f ∧ s = f.slot st ∧ st' = f.ap o.dst st ∧ (EffP P C o st f ∧ okE al f = true) ∧ lk = seesL ops st o ++ (f.box st :: (f.slot st).bxs))) →
        ∃ S T L F G, T k = st ∧ K (T ops.size) = some r ∧ Trace (OkP P C ops al) (fun o st f => EffP P C o st f ∧ okE al f = true) ops k S T L F ∧ (logOk ops (G ++ g) = true ∧ alOk ops al (G ++ g) = true) ∧ (∀ j, k ≤ j → j < ops.size → (L j = [] ∧ F j = none) ∨ lgOf T L F j ∈ G) ∧ (∀ x, x ∈ G → k ≤ x.j) ∧ (effs G).Pairwise (fun x y => y < x) := by
      intro s st' lk fk g1 hs hg1 hcase
      obtain ⟨S, T, L, F, G, hT, hK, htr, hlog, hmem, hG, hP⟩ := opsP_ok hsp hal l (k + 1) _ _ hk' hlt hs
      refine ⟨fun j => if j = k then s else S j, fun j => if j = k then st else T j, fun j => if j = k then lk else L j, fun j => if j = k then fk else F j, G ++ g1, if_pos rfl, ?_, ⟨fun j q hj hq => ?_, fun j q hj hq => ?_⟩, by rw [List.append_assoc]; exact hlog, fun j hj hjs => ?_, fun x hx => ?_, ?_⟩
      · show K (if ops.size = k then st else T ops.size) = some r
        rw [if_neg (by omega)]; exact hK
      · by_cases e : j = k
        · subst e
          obtain rfl : o = q := Option.some.inj (hko.symm.trans hq)
          simp only [if_true]
          rw [if_neg (by omega), hT]
          exact ⟨b, hcase, hw⟩
        · simp only [if_neg e, if_neg (show ¬ j + 1 = k by omega)]
          exact htr.step j q (by omega) hq
      · by_cases e : j = k
        · subst e
          obtain rfl : o = q := Option.some.inj (hko.symm.trans hq)
          simp only [if_true]
          exact hgd
        · simp only [if_neg e]
          exact htr.gd j q (by omega) hq
      · by_cases e : j = k
        · subst e
          simp only [if_true, lgOf]
          rcases hg1 with ⟨_, h1, h2⟩ | h1
          · exact .inl ⟨h1, h2⟩
          · exact .inr (List.mem_append_right _ (by rw [h1]; exact List.mem_singleton.2 rfl))
        · simp only [if_neg e, lgOf]
          rcases hmem j (by omega) hjs with h1 | h1
          · exact .inl h1
          · exact .inr (List.mem_append_left _ h1)
      · rcases List.mem_append.1 hx with h1 | h1
        · have := hG x h1; omega
        · rcases hg1 with ⟨h2, _⟩ | h2
          · rw [h2] at h1; cases h1
          · rw [h2, List.mem_singleton] at h1; rw [h1]; exact Nat.le_refl _
      · have e1 : effs (G ++ g1) = effs G ++ effs g1 := by unfold effs; rw [List.filterMap_append]
        rw [e1, List.pairwise_append]
        refine ⟨hP, ?_, fun x hx y hy => ?_⟩
        · rcases hg1 with ⟨h2, _⟩ | h2
          · rw [h2]; simp [effs]
          · rw [h2]; cases fk <;> simp [effs]
        · have hxk : k + 1 ≤ x := by
            unfold effs at hx
            obtain ⟨z, hz, hz2⟩ := List.mem_filterMap.1 hx
            have := hG z hz
            split at hz2
            · obtain rfl := Option.some.inj hz2; exact this
            · cases hz2
          have hyk : y = k := by
            rcases hg1 with ⟨h2, _⟩ | h2
            · rw [h2] at hy; simp [effs] at hy
            · rw [h2] at hy
              cases fk <;> simp [effs] at hy
              exact hy
          omega
    rcases bif_some hb with ⟨rfl, h2⟩ | ⟨rfl, h2⟩
    · split at h2
      · rename_i s hs
        unfold alA at hs
        split at hs
        · rename_i q hq
          obtain rfl := Option.some.inj hs
          have hqm := List.mem_of_find?_eq_some hq
          have hqk : q.1 = k := by simpa using List.find?_some hq
          obtain ⟨o', ho', ha⟩ := hal q hqm
          rw [hqk] at ho'
          obtain rfl : o = o' := Option.some.inj (hko.symm.trans ho')
          exact fin _ _ _ none [_] h2 (.inr rfl) (.inr (.inl ⟨rfl, rfl, rfl, .inr ⟨q, hqm, by rw [hqk]; exact hko, ha, rfl⟩, rfl⟩))
        · cases hs
      · split at h2
        · rename_i x hx
          subst h2
          obtain ⟨f, hf, hok⟩ := effK_ok (C := C) hx
          split at hf
          · rename_i hse
            exact fin (f.slot st) _ _ (some f) [_] hf (.inr rfl) (.inr (.inr ⟨rfl, f, rfl, rfl, rfl, ⟨hok, hse⟩, rfl⟩))
          · cases hf
        · obtain ⟨s, hs, hok⟩ := pureK_ok hsp h2
          refine fin s _ _ none [_] hs (.inr rfl) (.inr (.inl ⟨rfl, rfl, rfl, .inl ⟨hok, fun ty hty => ?_⟩, rfl⟩))
          unfold pureK at h2
          rw [hty] at h2
          cases h2
    · exact fin .undef _ [] none [] h2 (.inl ⟨rfl, rfl, rfl⟩) (.inl ⟨rfl, rfl, rfl, rfl⟩)

/-- Operation i writes t. -/
def Wr (ops : Array Oper) (t i : Nat) : Prop := ∃ o, ops[i]? = some o ∧ o.dst = some t
/-- Operation e appends to the box q. -/
def Ap (T : Nat → St) (F : Nat → Option Eff) (e q : Nat) : Prop := (∃ x t zs, F e = some (.app q x t zs)) ∨ (∃ x t zs, F e = some (.napp x t zs) ∧ q = (T e).b.length)
/-- i is ahead of j, by the edges. -/
inductive Ahead (ops : Array Oper) : Nat → Nat → Prop where
  | one {i j : Nat} {o : Oper} {e : Edge} : ops[j]? = some o → e ∈ o.after → Region.binds .any e = true → e.on = i → i < j → Ahead ops i j
  | step {i k j : Nat} : Ahead ops i k → Ahead ops k j → Ahead ops i j
theorem Ahead.lt {ops : Array Oper} {i j : Nat} (h : Ahead ops i j) : i < j := by
  induction h with
  | one _ _ _ _ h => exact h
  | step _ _ h1 h2 => omega
theorem Ahead.closed {ops : Array Oper} {listed : Array Bool} (hc : ∀ i o, ops[i]? = some o → listed.getD i false = true → ∀ e ∈ o.after, Region.binds .any e = true → listed.getD e.on false = true) {i j : Nat} (h : Ahead ops i j) (hj : listed.getD j false = true) : listed.getD i false = true := by
  induction h with
  | one ho he hb hon _ => rw [← hon]; exact hc _ _ ho hj _ he hb
  | step _ _ h1 h2 => exact h1 (h2 hj)
theorem Ahead.ready {ops : Array Oper} {listed : Array Bool} (hc : ∀ i o, ops[i]? = some o → listed.getD i false = true → ∀ e ∈ o.after, Region.binds .any e = true → listed.getD e.on false = true) {i j : Nat} {o : Oper} (h : Ahead ops i j) (ho : ops[j]? = some o) (hr : ∀ e ∈ o.after, Region.binds .any e = true → listed.getD e.on false = true) : listed.getD i false = true := by
  induction h with
  | one ho' he hb hon _ =>
    obtain rfl := Option.some.inj (ho.symm.trans ho')
    rw [← hon]; exact hr _ he hb
  | step h1 _ _ h2 => exact h1.closed hc (h2 ho)
theorem reach_ahead {ops : Array Oper} : ∀ (d i j : Nat), reach ops d i j = true → Ahead ops i j
  | 0, _, _, h => by simp [reach] at h
  | d + 1, i, j, h => by
    unfold reach at h
    split at h
    · rename_i q hq
      obtain ⟨e, he, h2⟩ := List.any_eq_true.1 h
      simp only [Bool.and_eq_true, Bool.or_eq_true, decide_eq_true_eq, beq_iff_eq] at h2
      obtain ⟨hb, hlt, h3⟩ := h2
      have hE : Ahead ops e.on j := .one hq (Array.mem_toList_iff.1 he) hb rfl hlt
      rcases h3 with h3 | ⟨_, h3⟩
      · rw [← h3]; exact hE
      · exact .step (reach_ahead d i e.on h3) hE
    · cases h
theorem chain_ahead {ops : Array Oper} : ∀ (l : List Nat), chainOk ops l = true → l.Pairwise (fun x y => Ahead ops y x)
  | [], _ => .nil
  | [_], _ => List.pairwise_singleton _ _
  | x :: y :: r, h => by
    simp only [chainOk, Bool.and_eq_true] at h
    have ih := chain_ahead (y :: r) h.2.2
    have h1 := reach_ahead _ _ _ h.2.1
    refine .cons (fun z hz => ?_) ih
    rcases List.mem_cons.1 hz with rfl | hz
    · exact h1
    · exact .step (List.rel_of_pairwise_cons ih hz) h1

section
variable {ops : Array Oper} {S : Nat → Slot} {T : Nat → St} {L : Nat → List Nat} {F : Nat → Option Eff} {Ok : Oper → St → Slot → Prop} {EO : Oper → St → Eff → Prop}

/-- What the log tells. -/
structure LogP (ops : Array Oper) (T : Nat → St) (L : Nat → List Nat) (F : Nat → Option Eff) : Prop where
  tot : ∀ i j, i < ops.size → j < ops.size → F i ≠ none → F j ≠ none → i < j → Ahead ops i j
  look : ∀ i j f, i < ops.size → j < ops.size → F i = some f → f.box (T i) ∈ L j → i ≠ j → Ahead ops j i ∨ Ahead ops i j
theorem log_of {G : List Lg} (h : logOk ops G = true) (hm : ∀ j, 0 ≤ j → j < ops.size → (L j = [] ∧ F j = none) ∨ lgOf T L F j ∈ G) (hP : (effs G).Pairwise (fun x y => y < x)) : LogP ops T L F := by
  unfold logOk at h
  rw [Bool.and_eq_true] at h
  have mem : ∀ j, j < ops.size → F j ≠ none → lgOf T L F j ∈ G := fun j hj hf => by
    rcases hm j (Nat.zero_le _) hj with ⟨_, h1⟩ | h1
    · exact absurd h1 hf
    · exact h1
  have meme : ∀ j, j < ops.size → F j ≠ none → j ∈ effs G := fun j hj hf => by
    unfold effs
    refine List.mem_filterMap.2 ⟨_, mem j hj hf, ?_⟩
    cases hF : F j with
    | none => exact absurd hF hf
    | some f => simp [lgOf, hF]
  have hch := chain_ahead _ h.1
  refine ⟨fun i j hi hj hfi hfj hij => ?_, fun i j f hi hj hf hq hne => ?_⟩
  · have key : ∀ l : List Nat, l.Pairwise (fun x y => y < x) → l.Pairwise (fun x y => Ahead ops y x) → i ∈ l → j ∈ l → Ahead ops i j := by
      intro l
      induction l with
      | nil => intro _ _ h; cases h
      | cons x r ih =>
        intro p1 p2 m1 m2
        rcases List.mem_cons.1 m1 with e1 | k1
        · subst e1
          rcases List.mem_cons.1 m2 with h2 | m2
          · omega
          · have := List.rel_of_pairwise_cons p1 m2; omega
        · rcases List.mem_cons.1 m2 with h2 | k2
          · rw [h2]; exact List.rel_of_pairwise_cons p2 k1
          · exact ih p1.of_cons p2.of_cons k1 k2
    exact key _ hP hch (meme i hi hfi) (meme j hj hfj)
  · have hLj : lgOf T L F j ∈ G := by
      rcases hm j (Nat.zero_le _) hj with ⟨h1, _⟩ | h1
      · rw [h1] at hq; cases hq
      · exact h1
    have h1 := List.all_eq_true.1 h.2 _ (mem i hi (by rw [hf]; simp))
    simp only [lgOf, hf, Option.map_some] at h1
    have h2 := List.all_eq_true.1 h1 _ hLj
    simp only [lgOf, Bool.or_eq_true, beq_iff_eq, Bool.not_eq_true'] at h2
    rcases h2 with h2 | h2 | h2 | h2
    · exact absurd h2.symm hne
    · have : (L j).contains (f.box (T i)) = true := by simpa using hq
      rw [this] at h2; cases h2
    · exact .inl (reach_ahead _ _ _ h2)
    · exact .inr (reach_ahead _ _ _ h2)

theorem ap_len (f : Eff) (d : Option Tmp) (st : St) : (f.ap d st).t.length = st.t.length := by
  cases f <;> cases d <;> simp [Eff.ap, St.put, St.off, St.fresh]
theorem ap_blen (f : Eff) (d : Option Tmp) (st : St) : st.b.length ≤ (f.ap d st).b.length := by
  cases f <;> cases d <;> simp [Eff.ap, St.put, St.off, St.fresh]
/-- What a slot holds behind an effect. -/
theorem ap_get (f : Eff) (d : Option Tmp) (st : St) (t : Nat) (hd : d ≠ some t) {s : Slot} (h : (f.ap d st).t[t]? = some s) : ∃ s0, st.t[t]? = some s0 ∧ (s = s0 ∨ s = .junk) ∧ (s = .junk ∨ ∀ k e u zs, (f = .app k e u zs ∨ (f = .napp e u zs ∧ k = st.b.length)) → k ∉ s0.bxs) := by
  have put_ : ∀ (st : St) (x : Slot), (st.put d x).t[t]? = st.t[t]? := fun st x => by
    cases d with
    | none => rfl
    | some d => exact List.getElem?_set_ne (fun hh => hd (by rw [hh]))
  cases f with
  | set i bx =>
    have h' : (st.put d .undef).t[t]? = some s := h
    rw [put_] at h'
    exact ⟨s, h', .inl rfl, .inr fun k e u zs q => by rcases q with q | ⟨q, _⟩ <;> cases q⟩
  | new bx x =>
    have h' : (st.put d x).t[t]? = some s := h
    rw [put_] at h'
    exact ⟨s, h', .inl rfl, .inr fun k e u zs q => by rcases q with q | ⟨q, _⟩ <;> cases q⟩
  | app k e u zs =>
    have h' : (st.t.map (offS fun i => i != k))[t]? = some s := by rw [← h]; exact (put_ ⟨_, _⟩ _).symm
    rw [List.getElem?_map, Option.map_eq_some_iff] at h'
    obtain ⟨s0, h0, rfl⟩ := h'
    refine ⟨s0, h0, ?_, ?_⟩
    · rcases offS_or (fun i => i != k) s0 with q | ⟨q, _⟩
      · exact .inr q
      · exact .inl q
    · rcases offS_or (fun i => i != k) s0 with q | ⟨_, q⟩
      · exact .inl q
      · refine .inr fun k' e' u' zs' h1 hk => ?_
        rcases h1 with h1 | ⟨h1, _⟩
        · cases h1
          have := q k hk; simp at this
        · cases h1
  | napp e u zs =>
    have h' : (st.t.map (offS fun i => i != st.b.length))[t]? = some s := by rw [← h]; exact (put_ ⟨_, _⟩ _).symm
    rw [List.getElem?_map, Option.map_eq_some_iff] at h'
    obtain ⟨s0, h0, rfl⟩ := h'
    refine ⟨s0, h0, ?_, ?_⟩
    · rcases offS_or (fun i => i != st.b.length) s0 with q | ⟨q, _⟩
      · exact .inr q
      · exact .inl q
    · rcases offS_or (fun i => i != st.b.length) s0 with q | ⟨_, q⟩
      · exact .inl q
      · refine .inr fun k' e' u' zs' h1 hk => ?_
        rcases h1 with h1 | ⟨h1, h2⟩
        · cases h1
        · rw [h2] at hk
          have := q _ hk; simp at this
/-- A slot that an effect leaves as it is. -/
theorem ap_stay (f : Eff) (d : Option Tmp) (st : St) (t : Nat) (hd : d ≠ some t) {s : Slot} (h : st.t[t]? = some s) (hn : ∀ k e u zs, (f = .app k e u zs ∨ (f = .napp e u zs ∧ k = st.b.length)) → k ∉ s.bxs) : (f.ap d st).t[t]? = some s := by
  have put_ : ∀ (st : St) (x : Slot), (st.put d x).t[t]? = st.t[t]? := fun st x => by
    cases d with
    | none => rfl
    | some d => exact List.getElem?_set_ne (fun hh => hd (by rw [hh]))
  cases f with
  | set i bx => exact (put_ st .undef).trans h
  | new bx x => exact (put_ st x).trans h
  | app k e u zs =>
    refine (put_ ⟨_, _⟩ _).trans ?_
    show (st.t.map (offS fun i => i != k))[t]? = some s
    rw [List.getElem?_map, h, Option.map_some, offS_keep fun q hq => by
      have := hn k e u zs (.inl rfl)
      simp only [bne_iff_ne, ne_eq]
      intro hh; subst hh; exact this hq]
  | napp e u zs =>
    refine (put_ ⟨_, _⟩ _).trans ?_
    show (st.t.map (offS fun i => i != st.b.length))[t]? = some s
    rw [List.getElem?_map, h, Option.map_some, offS_keep fun q hq => by
      have := hn st.b.length e u zs (.inr ⟨rfl, rfl⟩)
      simp only [bne_iff_ne, ne_eq]
      intro hh; subst hh; exact this hq]
theorem ap_dst (f : Eff) (d : Tmp) (st : St) (h : d < st.t.length) : (f.ap (some d) st).t[d]? = some (f.slot st) := by
  cases f <;> simp [Eff.ap, Eff.slot, St.put, St.off, St.fresh, h]
/-- What a box holds behind an effect. -/
theorem ap_b (f : Eff) (d : Option Tmp) (st : St) (q : Nat) (hq : q ≠ f.box st) (c : Bx) (h : (f.ap d st).b[q]? = some (some c)) : st.b[q]? = some (some c) := by
  cases f with
  | set i bx =>
    have h' : (st.b.set i (some bx))[q]? = some (some c) := h
    rw [List.getElem?_set_ne (fun hh => hq (by exact hh.symm))] at h'; exact h'
  | new bx x =>
    have h' : (st.b ++ [some bx])[q]? = some (some c) := h
    have hq' : q ≠ st.b.length := hq
    have hlt := (List.getElem?_eq_some_iff.1 h').1
    rw [List.length_append] at hlt
    simp only [List.length_singleton] at hlt
    rw [List.getElem?_append_left (by omega)] at h'; exact h'
  | app k e u zs =>
    have hq' : q ≠ k := hq
    have h' : ((st.b.map (offB fun i => i != k)).set k (some (Bx.arr e u zs)))[q]? = some (some c) := by rw [← h]; exact (congrArg (·[q]?) (put_bb ⟨_, _⟩ _ _)).symm
    rw [List.getElem?_set_ne (fun hh => hq' hh.symm), List.getElem?_map, Option.map_eq_some_iff] at h'
    obtain ⟨o, h1, h2⟩ := h'
    rw [h1, offB_some h2]
  | napp e u zs =>
    have hq' : q ≠ st.b.length := hq
    have h' : (((st.b ++ [some (Bx.arr e u [])]).map (offB fun i => i != st.b.length)).set st.b.length (some (Bx.arr e u zs)))[q]? = some (some c) := by rw [← h]; exact (congrArg (·[q]?) (put_bb ⟨_, _⟩ _ _)).symm
    rw [List.getElem?_set_ne (fun hh => hq' hh.symm), List.getElem?_map, Option.map_eq_some_iff] at h'
    obtain ⟨o, h1, h2⟩ := h'
    have hlt := (List.getElem?_eq_some_iff.1 h1).1
    rw [List.length_append] at hlt
    simp only [List.length_singleton] at hlt
    rw [List.getElem?_append_left (by omega)] at h1
    rw [h1, offB_some h2]
theorem ap_bstay (f : Eff) (d : Option Tmp) (st : St) (q : Nat) (hq : q ≠ f.box st) (c : Bx) (h : st.b[q]? = some (some c)) (hn : ∀ k e u zs, (f = .app k e u zs ∨ (f = .napp e u zs ∧ k = st.b.length)) → k ∉ c.bxs) : (f.ap d st).b[q]? = some (some c) := by
  have hlt := (List.getElem?_eq_some_iff.1 h).1
  cases f with
  | set i bx => exact (List.getElem?_set_ne (fun hh => hq hh.symm)).trans h
  | new bx x => exact (List.getElem?_append_left hlt).trans h
  | app k e u zs =>
    have hq' : q ≠ k := hq
    refine (congrArg (·[q]?) (put_bb ⟨_, _⟩ _ _)).trans ?_
    show ((st.b.map (offB fun i => i != k)).set k (some (Bx.arr e u zs)))[q]? = some (some c)
    rw [List.getElem?_set_ne (fun hh => hq' hh.symm), List.getElem?_map, h, Option.map_some, offB_keep fun x hx => by
      have := hn k e u zs (.inl rfl)
      simp only [bne_iff_ne, ne_eq]
      intro hh; subst hh; exact this hx]
  | napp e u zs =>
    have hq' : q ≠ st.b.length := hq
    refine (congrArg (·[q]?) (put_bb ⟨_, _⟩ _ _)).trans ?_
    show (((st.b ++ [some (Bx.arr e u [])]).map (offB fun i => i != st.b.length)).set st.b.length (some (Bx.arr e u zs)))[q]? = some (some c)
    rw [List.getElem?_set_ne (fun hh => hq' hh.symm), List.getElem?_map, List.getElem?_append_left hlt, h, Option.map_some, offB_keep fun x hx => by
      have := hn st.b.length e u zs (.inr ⟨rfl, rfl⟩)
      simp only [bne_iff_ne, ne_eq]
      intro hh; subst hh; exact this hx]
theorem ap_bcong (f : Eff) (d : Option Tmp) (st st2 : St) (h : st2.b = st.b) : (f.ap d st2).b = (f.ap d st).b := by
  cases f with
  | set i bx => show st2.b.set i _ = st.b.set i _; rw [h]
  | new bx x => show st2.b ++ _ = st.b ++ _; rw [h]
  | app k e u zs =>
    refine (put_bb ⟨_, _⟩ _ _).trans (Eq.trans ?_ (put_bb ⟨_, _⟩ _ _).symm)
    show (st2.b.map _).set k _ = (st.b.map _).set k _
    rw [h]
  | napp e u zs =>
    refine (put_bb ⟨_, _⟩ _ _).trans (Eq.trans ?_ (put_bb ⟨_, _⟩ _ _).symm)
    show ((st2.b ++ _).map _).set st2.b.length _ = ((st.b ++ _).map _).set st.b.length _
    rw [h]

theorem ap_is {f : Eff} {e k : Nat} (hf : F e = some f) {x : TypeId} {u : Ty} {zs : List u.den} (h : f = .app k x u zs ∨ (f = .napp x u zs ∧ k = (T e).b.length)) : Ap T F e k := by
  rcases h with rfl | ⟨rfl, rfl⟩
  · exact .inl ⟨_, _, _, hf⟩
  · exact .inr ⟨_, _, _, hf, rfl⟩
theorem Ap.box {e q : Nat} (h : Ap T F e q) : ∃ f, F e = some f ∧ f.box (T e) = q := by
  rcases h with ⟨x, t, zs, h⟩ | ⟨x, t, zs, h, rfl⟩
  · exact ⟨_, h, rfl⟩
  · exact ⟨_, h, rfl⟩

theorem Trace.len (h : Trace Ok EO ops 0 S T L F) : ∀ k, k ≤ ops.size → (T k).t.length = (T 0).t.length
  | 0, _ => rfl
  | k + 1, hk => by
    have hlt : k < ops.size := hk
    obtain ⟨b, hc, _⟩ := h.step k ops[k] (Nat.zero_le _) (Array.getElem?_eq_getElem hlt)
    have h1 := h.len k (by omega)
    have put_ : ∀ (d : Option Tmp) (s : Slot), ((T k).put d s).t.length = (T k).t.length := fun d s => by cases d <;> simp [St.put]
    rcases hc with ⟨_, _, _, e⟩ | ⟨_, _, e, _⟩ | ⟨_, f, _, _, e, _⟩
    · rw [e, put_, h1]
    · rw [e, put_, h1]
    · rw [e, ap_len, h1]

/-- A slot that none has written yet. -/
theorem Trace.none_ (h : Trace Ok EO ops 0 S T L F) {t : Nat} : ∀ k, k ≤ ops.size → (∀ i, i < k → ¬ Wr ops t i) → ∀ s, (T k).t[t]? = some s → s = .junk ∨ ((T 0).t[t]? = some s ∧ ∀ e q, e < k → Ap T F e q → q ∉ s.bxs)
  | 0, _, _, s, hs => .inr ⟨hs, fun _ _ h => by omega⟩
  | k + 1, hk, hn, s, hs => by
    have hlt : k < ops.size := hk
    have hok := Array.getElem?_eq_getElem hlt
    obtain ⟨b, hc, _⟩ := h.step k ops[k] (Nat.zero_le _) hok
    have ih := h.none_ k (by omega) (fun i hi => hn i (by omega))
    have hd : ops[k].dst ≠ some t := fun hh => hn k (by omega) ⟨_, hok, hh⟩
    have put_ : ∀ (x : Slot), ((T k).put ops[k].dst x).t[t]? = (T k).t[t]? := fun x => by
      cases hd' : ops[k].dst with
      | none => rfl
      | some d => exact List.getElem?_set_ne (fun hh => hd (by rw [hd', hh]))
    have pure_ : F k = none → (T k).t[t]? = some s → s = .junk ∨ ((T 0).t[t]? = some s ∧ ∀ e q, e < k + 1 → Ap T F e q → q ∉ s.bxs) := fun hf h1 => by
      rcases ih s h1 with h2 | ⟨h2, h3⟩
      · exact .inl h2
      · refine .inr ⟨h2, fun e q he ha => ?_⟩
        by_cases hek : e = k
        · subst hek
          obtain ⟨f, hf', _⟩ := ha.box
          rw [hf] at hf'; cases hf'
        · exact h3 e q (by omega) ha
    rcases hc with ⟨_, hf, _, e⟩ | ⟨_, hf, e, _⟩ | ⟨_, f, hf, _, e, _⟩
    · rw [e, put_] at hs; exact pure_ hf hs
    · rw [e, put_] at hs; exact pure_ hf hs
    · rw [e] at hs
      obtain ⟨s0, h0, h1, h2⟩ := ap_get f _ _ t hd hs
      rcases h1 with rfl | h1
      · rcases h2 with h2 | h2
        · exact .inl h2
        rcases ih _ h0 with h3 | ⟨h3, h4⟩
        · exact .inl h3
        · refine .inr ⟨h3, fun e' q he ha => ?_⟩
          by_cases hek : e' = k
          · subst hek
            rcases ha with ⟨x, u, zs, ha⟩ | ⟨x, u, zs, ha, hq⟩
            · exact h2 q x u zs (.inl (Option.some.inj (hf.symm.trans ha)))
            · exact h2 q x u zs (.inr ⟨Option.some.inj (hf.symm.trans ha), hq⟩)
          · exact h4 e' q (by omega) ha
      · exact .inl h1
/-- A slot that i has written. -/
theorem Trace.some_ (h : Trace Ok EO ops 0 S T L F) (hu : ∀ i j t, Wr ops t i → Wr ops t j → i = j) {t i : Nat} (hw : Wr ops t i) : ∀ k, k ≤ ops.size → i < k → ∀ s, (T k).t[t]? = some s → s = .junk ∨ (s = S i ∧ ∀ e q, i < e → e < k → Ap T F e q → q ∉ s.bxs)
  | k + 1, hk, hi, s, hs => by
    have hlt : k < ops.size := hk
    have hok := Array.getElem?_eq_getElem hlt
    obtain ⟨b, hc, _⟩ := h.step k ops[k] (Nat.zero_le _) hok
    by_cases hik : i = k
    · subst hik
      obtain ⟨o, ho, hd⟩ := hw
      obtain rfl : ops[i] = o := Option.some.inj (hok.symm.trans ho)
      have nov : ∀ e q, i < e → e < i + 1 → Ap T F e q → q ∉ s.bxs := fun e q h1 h2 => by omega
      have put_ : ∀ x, ((T i).put ops[i].dst x).t[t]? = some s → s = x := fun x hx => by
        rw [hd] at hx
        have hx' : ((T i).t.set t x)[t]? = some s := hx
        rw [List.getElem?_set, if_pos rfl] at hx'
        split at hx'
        · exact (Option.some.inj hx').symm
        · cases hx'
      rcases hc with ⟨_, _, hS, e⟩ | ⟨_, _, e, _⟩ | ⟨_, f, _, hS, e, _⟩
      · rw [e] at hs; exact .inr ⟨(put_ _ hs).trans hS.symm, nov⟩
      · rw [e] at hs; exact .inr ⟨put_ _ hs, nov⟩
      · rw [e, hd] at hs
        have hlt2 : t < (T i).t.length := by
          have := (List.getElem?_eq_some_iff.1 hs).1
          rwa [ap_len] at this
        rw [ap_dst f t _ hlt2] at hs
        exact .inr ⟨(Option.some.inj hs).symm.trans hS.symm, nov⟩
    · have ih := h.some_ hu hw k (by omega) (by omega)
      have hd : ops[k].dst ≠ some t := fun hh => hik (hu i k t hw ⟨_, hok, hh⟩)
      have put_ : ∀ (x : Slot), ((T k).put ops[k].dst x).t[t]? = (T k).t[t]? := fun x => by
        cases hd' : ops[k].dst with
        | none => rfl
        | some d => exact List.getElem?_set_ne (fun hh => hd (by rw [hd', hh]))
      have pure_ : F k = none → (T k).t[t]? = some s → s = .junk ∨ (s = S i ∧ ∀ e q, i < e → e < k + 1 → Ap T F e q → q ∉ s.bxs) := fun hf h1 => by
        rcases ih s h1 with h2 | ⟨h2, h3⟩
        · exact .inl h2
        · refine .inr ⟨h2, fun e q hie he ha => ?_⟩
          by_cases hek : e = k
          · subst hek
            obtain ⟨f, hf', _⟩ := ha.box
            rw [hf] at hf'; cases hf'
          · exact h3 e q hie (by omega) ha
      rcases hc with ⟨_, hf, _, e⟩ | ⟨_, hf, e, _⟩ | ⟨_, f, hf, _, e, _⟩
      · rw [e, put_] at hs; exact pure_ hf hs
      · rw [e, put_] at hs; exact pure_ hf hs
      · rw [e] at hs
        obtain ⟨s0, h0, h1, h2⟩ := ap_get f _ _ t hd hs
        rcases h1 with rfl | h1
        · rcases h2 with h2 | h2
          · exact .inl h2
          rcases ih _ h0 with h3 | ⟨h3, h4⟩
          · exact .inl h3
          · refine .inr ⟨h3, fun e' q hie he ha => ?_⟩
            by_cases hek : e' = k
            · subst hek
              rcases ha with ⟨x, u, zs, ha⟩ | ⟨x, u, zs, ha, hq⟩
              · exact h2 q x u zs (.inl (Option.some.inj (hf.symm.trans ha)))
              · exact h2 q x u zs (.inr ⟨Option.some.inj (hf.symm.trans ha), hq⟩)
            · exact h4 e' q hie (by omega) ha
        · exact .inl h1

/-- Between effects the boxes stay. -/
theorem Trace.bstay (h : Trace Ok EO ops 0 S T L F) {a : Nat} : ∀ d, a + d ≤ ops.size → (∀ e, a ≤ e → e < a + d → F e = none) → (T (a + d)).b = (T a).b
  | 0, _, _ => rfl
  | d + 1, hk, hn => by
    have hlt : a + d < ops.size := by omega
    obtain ⟨b, hc, _⟩ := h.step (a + d) ops[a + d] (Nat.zero_le _) (Array.getElem?_eq_getElem hlt)
    have ih := h.bstay d (by omega) (fun e h1 h2 => hn e h1 (by omega))
    have hf0 := hn (a + d) (by omega) (by omega)
    rcases hc with ⟨_, _, _, e⟩ | ⟨_, _, e, _⟩ | ⟨_, f, hf, _, e, _⟩
    · show (T (a + d + 1)).b = _; rw [e, put_bb, ih]
    · show (T (a + d + 1)).b = _; rw [e, put_bb, ih]
    · rw [hf0] at hf; cases hf
/-- A box that none writes between a and a later place: what it holds there it held at a. -/
theorem Trace.bup (h : Trace Ok EO ops 0 S T L F) {a q : Nat} {c : Bx} : ∀ d, a + d ≤ ops.size → (∀ e f, a ≤ e → e < a + d → F e = some f → f.box (T e) ≠ q) → (T (a + d)).b[q]? = some (some c) → (T a).b[q]? = some (some c)
  | 0, _, _, h => h
  | d + 1, hk, hn, hq => by
    have hlt : a + d < ops.size := by omega
    obtain ⟨b, hc, _⟩ := h.step (a + d) ops[a + d] (Nat.zero_le _) (Array.getElem?_eq_getElem hlt)
    refine h.bup d (by omega) (fun e f h1 h2 => hn e f h1 (by omega)) ?_
    have hq : (T (a + d + 1)).b[q]? = some (some c) := hq
    rcases hc with ⟨_, _, _, e⟩ | ⟨_, _, e, _⟩ | ⟨_, f, hf, _, e, _⟩
    · rw [e, put_bb] at hq; exact hq
    · rw [e, put_bb] at hq; exact hq
    · rw [e] at hq
      exact ap_b f _ _ q (fun hh => hn (a + d) f (by omega) (by omega) hf hh.symm) c hq
theorem Trace.bdown (h : Trace Ok EO ops 0 S T L F) {a q : Nat} {c : Bx} (hq : (T a).b[q]? = some (some c)) : ∀ d, a + d ≤ ops.size → (∀ e f, a ≤ e → e < a + d → F e = some f → f.box (T e) ≠ q) → (∀ e k, a ≤ e → e < a + d → Ap T F e k → k ∉ c.bxs) → (T (a + d)).b[q]? = some (some c)
  | 0, _, _, _ => hq
  | d + 1, hk, hn, hn2 => by
    have hlt : a + d < ops.size := by omega
    obtain ⟨b, hc, _⟩ := h.step (a + d) ops[a + d] (Nat.zero_le _) (Array.getElem?_eq_getElem hlt)
    have ih := h.bdown hq d (by omega) (fun e f h1 h2 => hn e f h1 (by omega)) (fun e k h1 h2 => hn2 e k h1 (by omega))
    show (T (a + d + 1)).b[q]? = _
    rcases hc with ⟨_, _, _, e⟩ | ⟨_, _, e, _⟩ | ⟨_, f, hf, _, e, _⟩
    · rw [e, put_bb]; exact ih
    · rw [e, put_bb]; exact ih
    · rw [e]
      exact ap_bstay f _ _ q (fun hh => hn (a + d) f (by omega) (by omega) hf hh.symm) c ih (fun k x u zs hh => hn2 (a + d) k (by omega) (by omega) (ap_is hf hh))
end

structure Ord (ops : Array Oper) : Prop where
  uniq : ∀ i j t, Wr ops t i → Wr ops t j → i = j
  back : ∀ j o, ops[j]? = some o → ∀ e ∈ o.after, Region.binds .any e = true → e.on < j
  look : ∀ j o t i, ops[j]? = some o → t ∈ looks ops o → Wr ops t i → (i < j ∧ ∃ e ∈ o.after, Region.binds .any e = true ∧ e.on = i) ∨ (j < i ∧ ∃ q, ops[i]? = some q ∧ ∃ e ∈ q.after, Region.binds .any e = true ∧ e.on = j)

theorem ord_of {ops : Array Oper} (h : drawOk P ops = true) : P.follows .mixedOrders = true ∧ Ord ops := by
  unfold drawOk at h
  rw [Bool.and_eq_true] at h
  obtain ⟨h1, h2⟩ := h
  have one : ∀ j o, ops[j]? = some o → drawOne ops j o = true := fun j o ho => by
    have hlt := (Array.getElem?_eq_some_iff.1 ho).1
    have := List.all_eq_true.1 h2 j (List.mem_range.2 hlt)
    rw [ho] at this; exact this
  have back : ∀ j o, ops[j]? = some o → ∀ e ∈ o.after, Region.binds .any e = true → e.on < j := fun j o ho e he hb => by
    have := one j o ho
    unfold drawOne at this
    rw [Bool.and_eq_true] at this
    have := List.all_eq_true.1 this.1 e (Array.mem_toList_iff.2 he)
    rw [hb] at this
    simpa using this
  have other : ∀ j o i q t, ops[j]? = some o → ops[i]? = some q → q.dst = some t → (i = j ∨ o.dst ≠ some t) ∧ (t ∈ looks ops o → (i < j ∧ ∃ e ∈ o.after, Region.binds .any e = true ∧ e.on = i) ∨ (j < i ∧ ∃ e ∈ q.after, Region.binds .any e = true ∧ e.on = j)) := fun j o i q t ho hq ht => by
    have h3 := one j o ho
    unfold drawOne at h3
    rw [Bool.and_eq_true] at h3
    have hlt := (Array.getElem?_eq_some_iff.1 hq).1
    have h4 := List.all_eq_true.1 h3.2 i (List.mem_range.2 hlt)
    rw [hq] at h4
    simp only [ht] at h4
    simp only [Bool.and_eq_true, Bool.or_eq_true, beq_iff_eq, Bool.not_eq_true', beq_eq_false_iff_ne, decide_eq_true_eq, List.any_eq_true, Array.mem_toList_iff] at h4
    refine ⟨h4.1, fun hm => ?_⟩
    rcases h4.2 with h5 | h5
    · have : (looks ops o).contains t = true := by simpa using hm
      rw [this] at h5; cases h5
    · exact h5
  refine ⟨h1, fun i j t hi hj => ?_, back, fun j o t i ho hm hw => ?_⟩
  · obtain ⟨oi, hoi, hdi⟩ := hi
    obtain ⟨oj, hoj, hdj⟩ := hj
    rcases (other j oj i oi t hoj hoi hdi).1 with h | h
    · exact h
    · exact absurd hdj h
  · obtain ⟨q, hq, hd⟩ := hw
    rcases (other j o i q t ho hq hd).2 hm with ⟨h1, h2⟩ | ⟨h1, h2⟩
    · exact .inl ⟨h1, h2⟩
    · exact .inr ⟨h1, q, hq, h2⟩

/-- A region in the midst of a drawn order: cs is what holds now; p: the effects ahead of p are done. -/
structure Mid (C : Ctx) (m0 : Base) (w0 : World) (ops : Array Oper) (S : Nat → Slot) (T : Nat → St) (F : Nat → Option Eff) (st : St) (ds : List Deferred) (listed : Array Bool) (E : Env) (a : Act) (w : World) (cs : St) (p : Nat) : Prop where
  size : listed.size = ops.size
  closed : ∀ i o, ops[i]? = some o → listed.getD i false = true → ∀ e ∈ o.after, Region.binds .any e = true → listed.getD e.on false = true
  done : ∀ i t, listed.getD i false = true → Wr ops t i → t < st.t.length → (∀ e q, Ap T F e q → i < e → e < ops.size → listed.getD e false = true → q ∉ (S i).bxs) → cs.t[t]? = some (S i)
  still : ∀ t s, (∀ i, Wr ops t i → listed.getD i false = false) → st.t[t]? = some s → (∀ e q, Ap T F e q → e < ops.size → listed.getD e false = true → q ∉ s.bxs) → cs.t[t]? = some s
  len : cs.t.length = st.t.length
  ple : p ≤ ops.size
  prog : ∀ e, e < ops.size → F e ≠ none → (e < p ↔ listed.getD e false = true)
  bx : cs.b = (T p).b
  gr : GR C m0 w0 E cs a.tmps w
  defers : a.defers = ds

theorem getD_true {l : Array Bool} {i : Nat} (hi : i < l.size) : l.getD i true = l.getD i false := by
  simp [Array.getElem?_eq_getElem hi]

theorem set_getD {l : Array Bool} {i j : Nat} (hi : i < l.size) : (l.setIfInBounds i true).getD j false = if i = j then true else l.getD j false := by
  rw [Array.getD_eq_getD_getElem?, Array.getD_eq_getD_getElem?, Array.getElem?_setIfInBounds]
  by_cases h : i = j
  · subst h; rw [if_pos rfl, if_pos rfl, if_pos hi]; rfl
  · rw [if_neg h, if_neg h]

def left_ (listed : Array Bool) : List Nat := (List.range listed.size).filter fun i => !listed.getD i false
theorem left_set {l : Array Bool} {i : Nat} (hi : i < l.size) (hf : l.getD i false = false) : (left_ (l.setIfInBounds i true)).length < (left_ l).length := by
  unfold left_
  rw [Array.size_setIfInBounds]
  have e : ((List.range l.size).filter fun j => !(l.setIfInBounds i true).getD j false) = ((List.range l.size).filter fun j => !l.getD j false).filter fun j => decide (j ≠ i) := by
    rw [List.filter_filter]
    apply List.filter_congr
    intro j _
    rw [set_getD hi]
    by_cases h : i = j
    · subst h; simp
    · rw [if_neg h]
      have : j ≠ i := fun hh => h hh.symm
      simp [this]
  rw [e]
  refine List.length_filter_lt_length_iff_exists.2 ⟨i, ?_, by simp⟩
  rw [List.mem_filter]
  exact ⟨List.mem_range.2 hi, by rw [hf]; rfl⟩

theorem draw_ok {ops : Array Oper} {S : Nat → Slot} {T : Nat → St} {L : Nat → List Nat} {F : Nat → Option Eff} {st : St} {ds : List Deferred} {Q : Exit → Act → World → Prop} (ho : Ord ops) (hl : LogP ops T L F) (ht : Trace (OkP P C ops []) (fun o st f => EffP P C o st f ∧ okE [] f = true) ops 0 S T L F) (h0 : T 0 = st)
    (hQ : ∀ E a w, GR C m0 w0 E (T ops.size) a.tmps w → a.defers = ds → Q .normal a w) :
    ∀ (fuel : Nat) (listed : Array Bool) (E : Env) (a : Act) (w : World) (cs : St) (p : Nat), (left_ listed).length ≤ fuel → Mid C m0 w0 ops S T F st ds listed E a w cs p → wpAny P .any ops Q fuel listed a w := by
  have hlen : ∀ k, k ≤ ops.size → (T k).t.length = st.t.length := fun k hk => by rw [← h0]; exact ht.len k hk
  have hLs : ∀ j o f, ops[j]? = some o → F j = some f → L j = seesL ops (T j) o ++ (f.box (T j) :: (f.slot (T j)).bxs) := fun j o f hj hf => by
    obtain ⟨b, hc, _⟩ := ht.step j o (Nat.zero_le _) hj
    rcases hc with ⟨_, h1, _⟩ | ⟨_, h1, _⟩ | ⟨_, f', h1, _, _, _, h2⟩
    · rw [hf] at h1; cases h1
    · rw [hf] at h1; cases h1
    · obtain rfl := Option.some.inj (hf.symm.trans h1); exact h2
  -- what an operation yields speaks of boxes that are in its row
  have hSL : ∀ j, j < ops.size → ∀ q, q ∈ (S j).bxs → q ∈ L j := fun j hj q hq => by
    obtain ⟨b, hc, _⟩ := ht.step j ops[j] (Nat.zero_le _) (Array.getElem?_eq_getElem hj)
    rcases hc with ⟨_, _, h1, _⟩ | ⟨_, _, _, _, h2⟩ | ⟨_, f, _, h1, _, _, h2⟩
    · rw [h1] at hq; cases hq
    · rw [h2]; exact List.mem_append_right _ hq
    · rw [h2]; rw [h1] at hq; exact List.mem_append_right _ (List.mem_cons_of_mem _ hq)
  have atEnd : ∀ (listed : Array Bool) (E : Env) (a : Act) (w : World) (cs : St) (p : Nat), (∀ i, i < ops.size → listed.getD i false = true) → Mid C m0 w0 ops S T F st ds listed E a w cs p → Q .normal a w := by
    intro listed E a w cs p hall hm
    have h1 := hlen ops.size (Nat.le_refl _)
    have hcb : cs.b = (T ops.size).b := by
      rw [hm.bx]
      have := ht.bstay (a := p) (ops.size - p) (by have := hm.ple; omega) (fun e h1 h2 => by
        have hlt : e < ops.size := by have := hm.ple; omega
        cases hf : F e with
        | none => rfl
        | some f =>
          have := (hm.prog e hlt (by rw [hf]; simp)).2 (hall e hlt)
          omega)
      rw [show p + (ops.size - p) = ops.size by have := hm.ple; omega] at this
      exact this.symm
    refine hQ E a w ⟨⟨by rw [h1, ← hm.len]; exact hm.gr.fr.len, fun t s _ hs => ?_, fun i tv hi => hm.gr.fr.boxes i tv (by rw [hcb]; exact hi), fun i e t xs hi => hm.gr.fr.arrs i e t xs (by rw [hcb]; exact hi), hm.gr.fr.inj, hm.gr.fr.inv⟩, hm.gr.chg, hm.gr.own, hm.gr.lt, fun i hi => hm.gr.top i (by rw [hcb]; exact hi), hm.gr.gl, by rw [← hcb]; exact hm.gr.fx⟩ hm.defers
    have htl : t < st.t.length := by rw [← h1]; exact (List.getElem?_eq_some_iff.1 hs).1
    by_cases hw : ∃ i, Wr ops t i
    · obtain ⟨i, hi⟩ := hw
      have hlt : i < ops.size := by obtain ⟨o, hoi, _⟩ := hi; exact (Array.getElem?_eq_some_iff.1 hoi).1
      rcases ht.some_ ho.uniq hi ops.size (Nat.le_refl _) hlt s hs with rfl | ⟨rfl, hok⟩
      · trivial
      · exact hm.gr.fr.slots t _ trivial (hm.done i t (hall i hlt) hi htl (fun e q ha h2 h3 _ => hok e q h2 h3 ha))
    · rcases ht.none_ ops.size (Nat.le_refl _) (fun i _ hi => hw ⟨i, hi⟩) s hs with rfl | ⟨h2, hok⟩
      · trivial
      · exact hm.gr.fr.slots t _ trivial (hm.still t s (fun i hi => absurd ⟨i, hi⟩ hw) (by rw [← h0]; exact h2) (fun e q ha h3 _ => hok e q h3 ha))
  have noneLeft : ∀ (listed : Array Bool), listed.size = ops.size → Region.ready .any ops listed = [] → ∀ i, i < ops.size → listed.getD i false = true := by
    intro listed hsz hr i
    induction i using Nat.strongRecOn with
    | _ i ih =>
      intro hi
      cases hf : listed.getD i false with
      | true => rfl
      | false =>
        have hmem : i ∈ Region.ready .any ops listed := by
          rw [mem_ready]
          refine ⟨by rw [getD_true (by omega)]; exact hf, ops[i], Array.getElem?_eq_getElem hi, fun e he hb => ?_⟩
          have := ho.back i _ (Array.getElem?_eq_getElem hi) e he hb
          exact ih e.on this (by omega)
        rw [hr] at hmem; cases hmem
  intro fuel
  induction fuel with
  | zero =>
    intro listed E a w cs p hc hm
    have hnil : left_ listed = [] := List.length_eq_zero_iff.1 (Nat.le_zero.1 hc)
    have hall : ∀ i, i < ops.size → listed.getD i false = true := fun i hi => by
      cases hf : listed.getD i false with
      | true => rfl
      | false =>
        have : i ∈ left_ listed := List.mem_filter.2 ⟨List.mem_range.2 (by rw [hm.size]; exact hi), by rw [hf]; rfl⟩
        rw [hnil] at this; cases this
    refine ⟨?_, atEnd listed E a w cs p hall hm⟩
    cases hr : Region.ready .any ops listed with
    | nil => rfl
    | cons x xs =>
      have : x ∈ Region.ready .any ops listed := by rw [hr]; simp
      rw [mem_ready] at this
      obtain ⟨h1, o, h2, _⟩ := this
      have hlt := (Array.getElem?_eq_some_iff.1 h2).1
      rw [getD_true (by rw [hm.size]; exact hlt), hall x hlt] at h1
      cases h1
  | succ fuel ih =>
    intro listed E a w cs p hc hm
    refine ⟨fun hr => atEnd listed E a w cs p (noneLeft listed hm.size hr) hm, fun j hj => ?_⟩
    rw [mem_ready] at hj
    obtain ⟨hf, o, hoj, hafter⟩ := hj
    have hlt := (Array.getElem?_eq_some_iff.1 hoj).1
    have hlt' : j < listed.size := by rw [hm.size]; exact hlt
    rw [getD_true hlt'] at hf
    obtain ⟨b, hcase, hguard⟩ := ht.step j o (Nat.zero_le _) hoj
    have hjl := hlen j (by omega)
    -- what is ahead of j is listed; what j is ahead of is not
    have ahead_j : ∀ i, Ahead ops i j → listed.getD i false = true := fun i h => h.ready hm.closed hoj hafter
    have j_ahead : ∀ i, Ahead ops j i → listed.getD i false = false := fun i h => by
      cases hli : listed.getD i false with
      | false => rfl
      | true => have := h.closed hm.closed hli; rw [hf] at this; cases this
    -- what j looks at holds what it holds in the text's order
    have hslot : ∀ t s, t ∈ looks ops o → (T j).t[t]? = some s → (∀ q, q ∈ s.bxs → q ∈ L j) → SlotRep E s (a.tmps.getD t undef) := by
      intro t s hX hs hsb
      have htl : t < st.t.length := by rw [← hjl]; exact (List.getElem?_eq_some_iff.1 hs).1
      have later : ∀ e q, Ap T F e q → j ≤ e → e < ops.size → listed.getD e false = true → q ∉ s.bxs := fun e q ha hje he hli hq => by
        obtain ⟨f, hf', hbx⟩ := ha.box
        have hne : e ≠ j := fun h => by subst h; rw [hf] at hli; cases hli
        rcases hl.look e j f he hlt hf' (by rw [hbx]; exact hsb q hq) hne with h1 | h1
        · have := j_ahead e h1; rw [hli] at this; cases this
        · have := h1.lt; omega
      by_cases hw : ∃ i, Wr ops t i
      · obtain ⟨i, hi⟩ := hw
        rcases ho.look j o t i hoj hX hi with ⟨hij, e, he, hbe, hei⟩ | ⟨hji, q, hq, e, he, hbe, hej⟩
        · rcases ht.some_ ho.uniq hi j (by omega) hij s hs with rfl | ⟨rfl, hok⟩
          · trivial
          · refine hm.gr.fr.slots t _ trivial (hm.done i t (by rw [← hei]; exact hafter e he hbe) hi htl (fun e' q' ha h2 h3 hli => ?_))
            by_cases hej : e' < j
            · exact hok e' q' h2 hej ha
            · exact later e' q' ha (by omega) h3 hli
        · rcases ht.none_ j (by omega) (fun i' hi' hw' => by have := ho.uniq _ _ _ hi hw'; omega) s hs with rfl | ⟨h2, hok⟩
          · trivial
          · refine hm.gr.fr.slots t _ trivial (hm.still t s (fun i' hi' => ?_) (by rw [← h0]; exact h2) (fun e' q' ha h3 hli => ?_))
            · obtain rfl := ho.uniq _ _ _ hi hi'
              cases hli : listed.getD i false with
              | false => rfl
              | true =>
                have := hm.closed i q hq hli e he hbe
                rw [hej, hf] at this; cases this
            · by_cases hej : e' < j
              · exact hok e' q' hej ha
              · exact later e' q' ha (by omega) h3 hli
      · rcases ht.none_ j (by omega) (fun i _ hi => hw ⟨i, hi⟩) s hs with rfl | ⟨h2, hok⟩
        · trivial
        · refine hm.gr.fr.slots t _ trivial (hm.still t s (fun i hi => absurd ⟨i, hi⟩ hw) (by rw [← h0]; exact h2) (fun e' q' ha h3 hli => ?_))
          by_cases hej : e' < j
          · exact hok e' q' hej ha
          · exact later e' q' ha (by omega) h3 hli
    have hwant : Region.wanted o (yielded ops a.tmps) = b := by
      refine hguard (fun t => ∃ g want, o.guard = some (g, want) ∧ (ops[g]?).bind (·.dst) = some t) E a.tmps w ⟨by show (T j).t.length = _; rw [hjl, ← hm.len]; exact hm.gr.fr.len, fun t s hX hs => ?_, fun i tv hi => ?_, fun i e t xs hi => ?_, hm.gr.fr.inj, hm.gr.fr.inv⟩ (fun g want t hg hgt => ⟨g, want, hg, hgt⟩)
      · obtain ⟨g, want, hg, hgt⟩ := hX
        have hX : t ∈ looks ops o := by
          unfold looks
          rw [hg]; simp only [hgt]
          exact List.mem_append_right _ (by simp)
        exact hslot t s hX hs (fun q hq => by rw [ht.gd j o (Nat.zero_le _) hoj g want t s hg hgt hs] at hq; cases hq)
      · obtain ⟨h1, _⟩ := dimB_get _ _ _ _ hi; cases h1
      · obtain ⟨h1, _⟩ := dimB_get _ _ _ _ hi; cases h1
    have hslots : (∀ q, q ∈ seen ops (T j) o → q ∈ L j) → ∀ t s, t ∈ looks ops o → (T j).t[t]? = some s → SlotRep E s (a.tmps.getD t undef) := fun hsee t s hX hs =>
      hslot t s hX hs fun q hq => hsee q (List.mem_flatMap.2 ⟨t, hX, by rw [hs]; exact hq⟩)
    -- the next state
    have next : ∀ v E' w' cs' p', GR C m0 w0 E' cs' (a.put o.dst v).tmps w' → (∀ t, o.dst = some t → t < st.t.length → cs'.t[t]? = some (S j)) → (∀ t s, o.dst ≠ some t → cs.t[t]? = some s → (∀ q, Ap T F j q → q ∉ s.bxs) → cs'.t[t]? = some s) → cs'.t.length = cs.t.length →
        p' ≤ ops.size → (∀ e, e < ops.size → F e ≠ none → (e < p' ↔ (listed.setIfInBounds j true).getD e false = true)) → cs'.b = (T p').b → wpAny P .any ops Q fuel (listed.setIfInBounds j true) (a.put o.dst v) w' := by
      intro v E' w' cs' p' hg hdst hoth hcl hp1 hp2 hp3
      refine ih _ E' _ w' cs' p' ?_ ?_
      · have := left_set hlt' hf; omega
      · refine ⟨by rw [Array.size_setIfInBounds]; exact hm.size, fun i q hq hli e he hbe => ?_, fun i t hli hw htl hva => ?_, fun t s hn hst hva => ?_, by rw [hcl]; exact hm.len, hp1, hp2, hp3, hg, by rw [put_defers]; exact hm.defers⟩
        · rw [set_getD hlt'] at hli ⊢
          split
          · rfl
          · split at hli
            · rename_i hji; subst hji
              obtain rfl : o = q := Option.some.inj (hoj.symm.trans hq)
              exact hafter e he hbe
            · exact hm.closed i q hq hli e he hbe
        · rw [set_getD hlt'] at hli
          by_cases hji : j = i
          · subst hji
            obtain ⟨q, hq, hd⟩ := hw
            obtain rfl : o = q := Option.some.inj (hoj.symm.trans hq)
            exact hdst t hd htl
          · rw [if_neg hji] at hli
            have hil : i < ops.size := by obtain ⟨q, hq, _⟩ := hw; exact (Array.getElem?_eq_some_iff.1 hq).1
            refine hoth t _ (fun hd => hji (ho.uniq _ _ _ ⟨o, hoj, hd⟩ hw)) (hm.done i t hli hw htl (fun e q ha h1 h2 h3 => hva e q ha h1 h2 (by rw [set_getD hlt']; split <;> first | rfl | exact h3))) (fun q ha hq => ?_)
            by_cases hij : i < j
            · exact hva j q ha hij hlt (by rw [set_getD hlt', if_pos rfl]) hq
            · obtain ⟨f, hf', hbx⟩ := ha.box
              rcases hl.look j i f hlt hil hf' (by rw [hbx]; exact hSL i hil q hq) hji with h1 | h1
              · have := h1.lt; omega
              · have := j_ahead i h1; rw [hli] at this; cases this
        · have hne : o.dst ≠ some t := fun hd => by
            have := hn j ⟨o, hoj, hd⟩
            rw [set_getD hlt', if_pos rfl] at this; cases this
          refine hoth t s hne (hm.still t s (fun i hi => ?_) hst (fun e q ha h1 h2 => hva e q ha h1 (by rw [set_getD hlt']; split <;> first | rfl | exact h2))) (fun q ha => hva j q ha hlt (by rw [set_getD hlt', if_pos rfl]))
          have := hn i hi
          rw [set_getD hlt'] at this
          split at this
          · cases this
          · exact this
    have hfnone : ∀ q, F j = none → ¬ Ap T F j q := fun q hF ha => by
      obtain ⟨f, hf', _⟩ := ha.box
      rw [hF] at hf'; cases hf'
    have stay : ∀ v E' w', F j = none → GR C m0 w0 E' (cs.put o.dst (S j)) (a.put o.dst v).tmps w' → wpAny P .any ops Q fuel (listed.setIfInBounds j true) (a.put o.dst v) w' := fun v E' w' hF hg =>
      next v E' w' _ p hg (fun t hd htl => by
        rw [hd]
        show (cs.t.set t (S j))[t]? = _
        rw [List.getElem?_set_self (by rw [hm.len]; exact htl)]) (fun t s hd hs _ => by
        cases hd' : o.dst with
        | none => exact hs
        | some d =>
          show (cs.t.set d (S j))[t]? = _
          rw [List.getElem?_set_ne (fun hh => hd (by rw [hd', hh]))]; exact hs) (by cases o.dst <;> simp [St.put]) hm.ple (fun e he hfe => by
        have hne : j ≠ e := fun h => by subst h; exact hfe hF
        rw [set_getD hlt', if_neg hne]
        exact hm.prog e he hfe) (by rw [put_bb]; exact hm.bx)
    unfold wpOp
    rw [hoj]
    simp only
    rw [hwant]
    rcases hcase with ⟨rfl, hF, hS, _⟩ | ⟨rfl, hF, _, hok, hL⟩ | ⟨rfl, f, hF, hS, hT', ⟨⟨hok, _⟩, _⟩, hL⟩
    · rw [if_neg (by simp)]
      refine stay undef E w hF ?_
      rw [hS]; exact hm.gr.put_undef o.dst
    · rw [if_pos rfl]
      have hsee : ∀ q, q ∈ seen ops (T j) o → q ∈ L j := fun q hq => by rw [hL]; exact List.mem_append_left _ (List.mem_append_left _ hq)
      have hbox : ∀ q c, (dimB (seen ops (T j) o) 0 (T j).b)[q]? = some (some c) → cs.b[q]? = some (some c) := fun q c hq => by
        obtain ⟨h1, h2⟩ := dimB_get _ _ _ _ hq
        rw [Nat.zero_add] at h1
        rw [hm.bx]
        rcases Nat.le_total p j with hpj | hjp
        · have := ht.bup (a := p) (q := q) (c := c) (j - p) (by omega) (fun e f h3 h4 hfe hbx => by
            have hel : e < ops.size := by omega
            rcases hl.look e j f hel hlt hfe (by rw [hbx]; exact hsee q h1) (by omega) with h5 | h5
            · have := h5.lt; omega
            · have := (hm.prog e hel (by rw [hfe]; simp)).2 (ahead_j e h5); omega)
          rw [show p + (j - p) = j by omega] at this
          exact this h2
        · have hple := hm.ple
          have := ht.bdown h2 (p - j) (by omega) (fun e f h3 h4 hfe hbx => by
            have hel : e < ops.size := by omega
            have hne : e ≠ j := fun h => by subst h; rw [hF] at hfe; cases hfe
            rcases hl.look e j f hel hlt hfe (by rw [hbx]; exact hsee q h1) hne with h5 | h5
            · have h6 := j_ahead e h5
              have := (hm.prog e hel (by rw [hfe]; simp)).1 (by omega)
              rw [h6] at this; cases this
            · have := h5.lt; omega) (fun e k h3 h4 ha hk => by
            have hel : e < ops.size := by omega
            obtain ⟨f, hfe, hbx⟩ := ha.box
            have hne : e ≠ j := fun h => by subst h; rw [hF] at hfe; cases hfe
            have hkL : k ∈ L j := by
              rw [hL]
              refine List.mem_append_left _ (List.mem_append_right _ (List.mem_flatMap.2 ⟨q, h1, ?_⟩))
              rw [h2]; exact hk
            rcases hl.look e j f hel hlt hfe (by rw [hbx]; exact hkL) hne with h5 | h5
            · have h6 := j_ahead e h5
              have := (hm.prog e hel (by rw [hfe]; simp)).1 (by omega)
              rw [h6] at this; cases this
            · have := h5.lt; omega)
          rw [show j + (p - j) = p by omega] at this
          exact this
      have hfr : FR (· ∈ reads o) E ((T j).dim (seen ops (T j) o)) a.tmps w :=
        ⟨by show (T j).t.length = _; rw [hjl, ← hm.len]; exact hm.gr.fr.len, fun t s hX hs => hslots hsee t s (List.mem_append_left _ hX) hs, fun i tv hi => hm.gr.fr.boxes i tv (hbox i _ hi), fun i e t xs hi => hm.gr.fr.arrs i e t xs (hbox i _ hi), hm.gr.fr.inj, hm.gr.fr.inv⟩
      have hok := hok.elim (fun h => h.1) (fun ⟨q, hq, _⟩ => by cases hq)
      exact .inl (hok E a w _ Q hfr hm.gr.gl fun v m' w' hcg hi hs => stay v { E with m := m' } w' hF (hm.gr.of_chg hcg hi hs o.dst))
    · rw [if_pos rfl]
      have hsee : ∀ q, q ∈ seen ops (T j) o → q ∈ L j := fun q hq => by rw [hL]; exact List.mem_append_left _ (List.mem_append_left _ hq)
      have hFj : F j ≠ none := by rw [hF]; simp
      have hpj : p ≤ j := by
        rcases Nat.lt_or_ge j p with h | h
        · have := (hm.prog j hlt hFj).1 h; rw [hf] at this; cases this
        · exact h
      have hcb : cs.b = (T j).b := by
        rw [hm.bx]
        have := ht.bstay (a := p) (j - p) (by omega) (fun e h1 h2 => by
          have hel : e < ops.size := by omega
          cases hfe : F e with
          | none => rfl
          | some f' =>
            have := (hm.prog e hel (by rw [hfe]; simp)).2 (ahead_j e (hl.tot e j hel hlt (by rw [hfe]; simp) hFj (by omega)))
            omega)
        rw [show p + (j - p) = j by omega] at this
        exact this.symm
      have hfr : FR (· ∈ reads o) E (T j) a.tmps w :=
        ⟨by rw [hjl, ← hm.len]; exact hm.gr.fr.len, fun t s hX hs => hslots hsee t s (List.mem_append_left _ hX) hs, fun i tv hi => hm.gr.fr.boxes i tv (by rw [hcb]; exact hi), fun i e t xs hi => hm.gr.fr.arrs i e t xs (by rw [hcb]; exact hi), hm.gr.fr.inj, hm.gr.fr.inv⟩
      have hslotE : f.slot cs = f.slot (T j) := by cases f <;> simp [Eff.slot, hcb]
      refine .inl (hok m0 w0 E a w cs _ Q hfr hcb hm.gr fun v E' w' hg => next v E' w' _ (j + 1) hg (fun t hd htl => ?_) (fun t s hd hs hap => ?_) (ap_len _ _ _) hlt (fun e he hfe => ?_) ?_)
      · rw [hd, ap_dst f t cs (by rw [hm.len]; exact htl), hslotE, hS]
      · refine ap_stay f _ cs t hd hs fun k e u zs hh => hap k ?_
        rcases hh with rfl | ⟨rfl, hk⟩
        · exact .inl ⟨_, _, _, hF⟩
        · exact .inr ⟨_, _, _, hF, by rw [hk, hcb]⟩
      · rw [set_getD hlt']
        by_cases hje : j = e
        · subst hje; rw [if_pos rfl]; simp
        · rw [if_neg hje]
          rcases Nat.lt_or_ge e j with h | h
          · have := ahead_j e (hl.tot e j he hlt hfe hFj h)
            rw [this]; simp; omega
          · have := j_ahead e (hl.tot j e hlt he hFj hfe (by omega))
            rw [this]; simp; omega
      · rw [ap_bcong f _ _ _ hcb, hT']

/-- An empty place for a box is given a variable. -/
theorem GR.newAt {E : Env} {w : World} {k : Nat} {tv : TV} {cs : List Value} {e : TypeId} {hs : St} {tmps : Array Value} (h : GR C m0 w0 E hs tmps w) (hk : hs.b[k]? = some none) (hb : E.β k = none) (ht : E.τ k = none) (hnb : m0.nb ≤ k) (he : eltOf tv.t e = e) (hr : ∀ E, rep E tv.t tv.x cs) :
    ∃ E', E'.β k = some w.heap.size ∧ (∀ i, i ≠ k → E'.β i = E.β i ∧ E'.τ i = E.τ i) ∧ GR C m0 w0 E' ⟨hs.t, hs.b.set k (some (.one tv))⟩ tmps { w with heap := w.heap.push (.cells cs.toArray e) } := by
  have hc : Chg C E.m w E.m { w with heap := w.heap.push (.cells cs.toArray e) } := push_chg _
  have hi : Inv E.m { w with heap := w.heap.push (.cells cs.toArray e) } := chg_inv hc (fun _ _ _ _ => id) h.fr.inv
  have hf := h.fr.chg hc hi
  have hkl : k < hs.b.length := (List.getElem?_eq_some_iff.1 hk).1
  let E' : Env := { E with β := fun i => if i = k then some w.heap.size else E.β i }
  have e1 : E'.β k = some w.heap.size := by show (if _ then _ else _) = _; rw [if_pos rfl]
  have e3 : ∀ i, i ≠ k → E'.β i = E.β i := fun i hi => by show (if _ then _ else _) = _; rw [if_neg hi]
  have hle : E.le E' := ⟨fun _ _ _ h => h, fun i b hb' => by
    rw [e3 i (fun hh => by rw [hh, hb] at hb'; cases hb')]; exact hb', fun _ _ h => h⟩
  have hnone : ∀ j, E.m w.heap.size j = none := fun j => by
    cases hm : E.m w.heap.size j with
    | none => rfl
    | some v => exact absurd (cell_lt (h.fr.inv _ _ _ hm)) (Nat.lt_irrefl _)
  have hinj : ∀ i j b, E'.β i = some b → E'.β j = some b → i = j := fun i j b hbi hbj => by
    by_cases i1 : i = k <;> by_cases j1 : j = k
    · omega
    · rw [i1, e1] at hbi; rw [e3 j j1] at hbj
      obtain rfl := Option.some.inj hbi
      exact absurd (h.lt _ _ hbj) (by omega)
    · rw [e3 i i1] at hbi; rw [j1, e1] at hbj
      obtain rfl := Option.some.inj hbj
      exact absurd (h.lt _ _ hbi) (by omega)
    · rw [e3 i i1] at hbi; rw [e3 j j1] at hbj
      exact h.fr.inj i j b hbi hbj
  have at_ : ∀ i (c : Bx), (hs.b.set k (some (.one tv)))[i]? = some (some c) → (i ≠ k ∧ hs.b[i]? = some (some c)) ∨ (i = k ∧ c = .one tv) := fun i c hc' => by
    by_cases hik : i = k
    · subst hik
      rw [List.getElem?_set_self hkl] at hc'
      simp only [Option.some.injEq] at hc'
      exact .inr ⟨rfl, hc'.symm⟩
    · rw [List.getElem?_set_ne (fun hh => hik hh.symm)] at hc'
      exact .inl ⟨hik, hc'⟩
  have heap_old : ∀ i b, E.β i = some b → ({ w with heap := w.heap.push (.cells cs.toArray e) } : World).heap[b]? = w.heap[b]? ∧ E'.m b = E.m b := fun i b hb => ⟨hc.heap b (h.lt i b hb) id, rfl⟩
  refine ⟨E', e1, fun i hi => ⟨e3 i hi, rfl⟩, ⟨hf.len, fun i s hi' hs => (h.fr.slots i s hi' hs).mono hle, fun i t ht => ?_, fun i e t xs ht => ?_, hinj, hi⟩, h.chg.trans hc (fun _ _ q => q.elim), fun i b hb => ?_, fun i b hb => ?_, fun i hi' => ?_, h.gl, ⟨by rw [List.length_set]; exact h.fx.1, fun i g hi hf tv' ht => ?_⟩⟩
  · rcases at_ i _ ht with ⟨_, h1⟩ | ⟨h1, h2⟩
    · exact (h.fr.boxes i t h1).keep hle (heap_old i)
    · cases h2
      rw [h1]
      exact ⟨w.heap.size, cs, e, e1, by simp [he], hr _, fun j => hnone j⟩
  · rcases at_ i _ ht with ⟨h0, h1⟩ | ⟨h1, h2⟩
    · exact (h.fr.arrs i e t xs h1).keep hle (e3 i h0) (heap_old i)
    · cases h2
  · by_cases i1 : i = k
    · rw [i1, e1] at hb; obtain rfl := Option.some.inj hb; exact .inl h.chg.size
    · rw [e3 i i1] at hb; exact h.own i b hb
  · by_cases i1 : i = k
    · rw [i1, e1] at hb; obtain rfl := Option.some.inj hb; simp
    · rw [e3 i i1] at hb; exact Nat.lt_of_lt_of_le (h.lt i b hb) hc.size
  · rw [List.length_set] at hi'
    have hne : i ≠ k := by omega
    exact ⟨by rw [e3 i hne]; exact (h.top i hi').1, (h.top i hi').2⟩
  · rcases at_ i _ ht with ⟨h0, h1⟩ | ⟨h1, _⟩
    · rw [e3 i h0]; exact h.fx.2 i g hi hf tv' h1
    · omega

/-- What the log tells of the variables. -/
theorem al_of {ops : Array Oper} {T : Nat → St} {L : Nat → List Nat} {F : Nat → Option Eff} {al : List (Nat × Nat × TV)} {G : List Lg} (h : alOk ops al G = true) (hm : ∀ j, 0 ≤ j → j < ops.size → (L j = [] ∧ F j = none) ∨ lgOf T L F j ∈ G) :
    ∀ q ∈ al, ∀ j, j < ops.size → q.2.1 ∈ L j → j ≠ q.1 → Ahead ops q.1 j := fun q hq j hj hL hne => by
  have h1 := List.all_eq_true.1 (List.all_eq_true.1 h q hq)
  rcases hm j (Nat.zero_le _) hj with ⟨h2, _⟩ | h2
  · rw [h2] at hL; cases hL
  · have h3 := h1 _ h2
    simp only [lgOf, Bool.or_eq_true, beq_iff_eq, Bool.not_eq_true'] at h3
    rcases h3 with h3 | h3 | h3
    · exact absurd h3 hne
    · have : (L j).contains q.2.1 = true := by simpa using hL
      rw [this] at h3; cases h3
    · exact reach_ahead _ _ _ h3

/-- A region that makes variables, in the midst of a drawn order: hs is what holds now; p: the effects ahead of p are done; what is not made yet is an empty place. -/
structure MidA (C : Ctx) (m0 : Base) (w0 : World) (ops : Array Oper) (S : Nat → Slot) (T : Nat → St) (F : Nat → Option Eff) (al : List (Nat × Nat × TV)) (st : St) (ds : List Deferred) (listed : Array Bool) (E : Env) (a : Act) (w : World) (hs : St) (p : Nat) : Prop where
  size : listed.size = ops.size
  closed : ∀ i o, ops[i]? = some o → listed.getD i false = true → ∀ e ∈ o.after, Region.binds .any e = true → listed.getD e.on false = true
  done : ∀ i t, listed.getD i false = true → Wr ops t i → t < st.t.length → hs.t[t]? = some (S i)
  still : ∀ t s, (∀ i, Wr ops t i → listed.getD i false = false) → st.t[t]? = some s → hs.t[t]? = some s
  len : hs.t.length = st.t.length
  blen : hs.b.length = (T 0).b.length
  ple : p ≤ ops.size
  prog : ∀ e, e < ops.size → F e ≠ none → (e < p ↔ listed.getD e false = true)
  hid : ∀ q ∈ al, listed.getD q.1 false = false → hs.b[q.2.1]? = some none ∧ E.β q.2.1 = none ∧ E.τ q.2.1 = none
  vis : ∀ k, (∀ q ∈ al, q.2.1 = k → listed.getD q.1 false = true) → hs.b[k]? = (T p).b[k]?
  gr : GR C m0 w0 E hs a.tmps w
  defers : a.defers = ds

theorem drawA_ok {ops : Array Oper} {S : Nat → Slot} {T : Nat → St} {L : Nat → List Nat} {F : Nat → Option Eff} {al : List (Nat × Nat × TV)} {st : St} {ds : List Deferred} {Q : Exit → Act → World → Prop} (ho : Ord ops) (hl : LogP ops T L F)
    (hla : ∀ q ∈ al, ∀ j, j < ops.size → q.2.1 ∈ L j → j ≠ q.1 → Ahead ops q.1 j) (hne : al ≠ []) (hal : ∀ q ∈ al, ∃ o, ops[q.1]? = some o ∧ AlOK P o q.2.2) (hu1 : ∀ q ∈ al, ∀ q' ∈ al, q.1 = q'.1 → q = q') (hu2 : ∀ q ∈ al, ∀ q' ∈ al, q.2.1 = q'.2.1 → q = q')
    (hnb : ∀ q ∈ al, m0.nb ≤ q.2.1) (h0b : ∀ q ∈ al, (T 0).b[q.2.1]? = some (some (.one q.2.2)))
    (ht : Trace (OkP P C ops al) (fun o st f => EffP P C o st f ∧ okE al f = true) ops 0 S T L F) (h0 : (T 0).t = st.t)
    (hQ : ∀ E a w, GR C m0 w0 E (T ops.size) a.tmps w → a.defers = ds → Q .normal a w) :
    ∀ (fuel : Nat) (listed : Array Bool) (E : Env) (a : Act) (w : World) (hs : St) (p : Nat), (left_ listed).length ≤ fuel → MidA C m0 w0 ops S T F al st ds listed E a w hs p → wpAny P .any ops Q fuel listed a w := by
  have hlen : ∀ k, k ≤ ops.size → (T k).t.length = st.t.length := fun k hk => by rw [← h0]; exact ht.len k hk
  -- every effect gives one box another content
  have hset : ∀ j f, j < ops.size → F j = some f → ∃ i bx, f = .set i bx := fun j f hj hf => by
    obtain ⟨b, hc, _⟩ := ht.step j ops[j] (Nat.zero_le _) (Array.getElem?_eq_getElem hj)
    rcases hc with ⟨_, h1, _⟩ | ⟨_, h1, _⟩ | ⟨_, f', h1, _, _, ⟨_, h2⟩, _⟩
    · rw [hf] at h1; cases h1
    · rw [hf] at h1; cases h1
    · obtain rfl := Option.some.inj (hf.symm.trans h1)
      cases f with
      | set i bx => exact ⟨i, bx, rfl⟩
      | _ =>
        cases al with
        | nil => exact absurd rfl hne
        | cons x r => simp [okE, isSet] at h2
  have noAp : ∀ e q, e < ops.size → ¬ Ap T F e q := fun e q he ha => by
    rcases ha with ⟨x, t, zs, h⟩ | ⟨x, t, zs, h, _⟩
    · obtain ⟨i, bx, h2⟩ := hset e _ he h; cases h2
    · obtain ⟨i, bx, h2⟩ := hset e _ he h; cases h2
  have hblen : ∀ k, k ≤ ops.size → (T k).b.length = (T 0).b.length := fun k => by
    induction k with
    | zero => intro _; rfl
    | succ k ih =>
      intro hk
      obtain ⟨b, hc, _⟩ := ht.step k ops[k] (Nat.zero_le _) (Array.getElem?_eq_getElem hk)
      rw [← ih (by omega)]
      rcases hc with ⟨_, _, _, e⟩ | ⟨_, _, e, _⟩ | ⟨_, f, hf, _, e, _⟩
      · rw [e, put_bb]
      · rw [e, put_bb]
      · obtain ⟨i, bx, rfl⟩ := hset k f hk hf
        rw [e]
        show ((T k).b.set i _).length = _
        rw [List.length_set]
  -- what an operation yields speaks of boxes that are in its row
  have atEnd : ∀ (listed : Array Bool) (E : Env) (a : Act) (w : World) (hs : St) (p : Nat), (∀ i, i < ops.size → listed.getD i false = true) → MidA C m0 w0 ops S T F al st ds listed E a w hs p → Q .normal a w := by
    intro listed E a w hs p hall hm
    have h1 := hlen ops.size (Nat.le_refl _)
    have hcb : hs.b = (T ops.size).b := by
      have hp : (T ops.size).b = (T p).b := by
        have := ht.bstay (a := p) (ops.size - p) (by have := hm.ple; omega) (fun e h1 h2 => by
          have hlt : e < ops.size := by have := hm.ple; omega
          cases hf : F e with
          | none => rfl
          | some f =>
            have := (hm.prog e hlt (by rw [hf]; simp)).2 (hall e hlt)
            omega)
        rw [show p + (ops.size - p) = ops.size by have := hm.ple; omega] at this
        exact this
      rw [hp]
      apply List.ext_getElem?
      intro k
      refine hm.vis k fun q hq _ => hall _ ?_
      obtain ⟨o, ho', _⟩ := hal q hq
      exact (Array.getElem?_eq_some_iff.1 ho').1
    refine hQ E a w ⟨⟨by rw [h1, ← hm.len]; exact hm.gr.fr.len, fun t s _ hs' => ?_, fun i tv hi => hm.gr.fr.boxes i tv (by rw [hcb]; exact hi), fun i e t xs hi => hm.gr.fr.arrs i e t xs (by rw [hcb]; exact hi), hm.gr.fr.inj, hm.gr.fr.inv⟩, hm.gr.chg, hm.gr.own, hm.gr.lt, fun i hi => hm.gr.top i (by rw [hcb]; exact hi), hm.gr.gl, by rw [← hcb]; exact hm.gr.fx⟩ hm.defers
    have htl : t < st.t.length := by rw [← h1]; exact (List.getElem?_eq_some_iff.1 hs').1
    by_cases hw : ∃ i, Wr ops t i
    · obtain ⟨i, hi⟩ := hw
      have hlt : i < ops.size := by obtain ⟨o, hoi, _⟩ := hi; exact (Array.getElem?_eq_some_iff.1 hoi).1
      rcases ht.some_ ho.uniq hi ops.size (Nat.le_refl _) hlt s hs' with rfl | ⟨rfl, hok⟩
      · trivial
      · exact hm.gr.fr.slots t _ trivial (hm.done i t (hall i hlt) hi htl)
    · rcases ht.none_ ops.size (Nat.le_refl _) (fun i _ hi => hw ⟨i, hi⟩) s hs' with rfl | ⟨h2, hok⟩
      · trivial
      · exact hm.gr.fr.slots t _ trivial (hm.still t s (fun i hi => absurd ⟨i, hi⟩ hw) (by rw [← h0]; exact h2))
  have noneLeft : ∀ (listed : Array Bool), listed.size = ops.size → Region.ready .any ops listed = [] → ∀ i, i < ops.size → listed.getD i false = true := by
    intro listed hsz hr i
    induction i using Nat.strongRecOn with
    | _ i ih =>
      intro hi
      cases hf : listed.getD i false with
      | true => rfl
      | false =>
        have hmem : i ∈ Region.ready .any ops listed := by
          rw [mem_ready]
          refine ⟨by rw [getD_true (by omega)]; exact hf, ops[i], Array.getElem?_eq_getElem hi, fun e he hb => ?_⟩
          have := ho.back i _ (Array.getElem?_eq_getElem hi) e he hb
          exact ih e.on this (by omega)
        rw [hr] at hmem; cases hmem
  intro fuel
  induction fuel with
  | zero =>
    intro listed E a w hs p hc hm
    have hnil : left_ listed = [] := List.length_eq_zero_iff.1 (Nat.le_zero.1 hc)
    have hall : ∀ i, i < ops.size → listed.getD i false = true := fun i hi => by
      cases hf : listed.getD i false with
      | true => rfl
      | false =>
        have : i ∈ left_ listed := List.mem_filter.2 ⟨List.mem_range.2 (by rw [hm.size]; exact hi), by rw [hf]; rfl⟩
        rw [hnil] at this; cases this
    refine ⟨?_, atEnd listed E a w hs p hall hm⟩
    cases hr : Region.ready .any ops listed with
    | nil => rfl
    | cons x xs =>
      have : x ∈ Region.ready .any ops listed := by rw [hr]; simp
      rw [mem_ready] at this
      obtain ⟨h1, o, h2, _⟩ := this
      have hlt := (Array.getElem?_eq_some_iff.1 h2).1
      rw [getD_true (by rw [hm.size]; exact hlt), hall x hlt] at h1
      cases h1
  | succ fuel ih =>
    intro listed E a w hs p hc hm
    refine ⟨fun hr => atEnd listed E a w hs p (noneLeft listed hm.size hr) hm, fun j hj => ?_⟩
    rw [mem_ready] at hj
    obtain ⟨hf, o, hoj, hafter⟩ := hj
    have hlt := (Array.getElem?_eq_some_iff.1 hoj).1
    have hlt' : j < listed.size := by rw [hm.size]; exact hlt
    rw [getD_true hlt'] at hf
    obtain ⟨b, hcase, hguard⟩ := ht.step j o (Nat.zero_le _) hoj
    have hjl := hlen j (by omega)
    have ahead_j : ∀ i, Ahead ops i j → listed.getD i false = true := fun i h => h.ready hm.closed hoj hafter
    have j_ahead : ∀ i, Ahead ops j i → listed.getD i false = false := fun i h => by
      cases hli : listed.getD i false with
      | false => rfl
      | true => have := h.closed hm.closed hli; rw [hf] at this; cases this
    have hslot : ∀ t s, t ∈ looks ops o → (T j).t[t]? = some s → SlotRep E s (a.tmps.getD t undef) := by
      intro t s hX hs'
      have htl : t < st.t.length := by rw [← hjl]; exact (List.getElem?_eq_some_iff.1 hs').1
      by_cases hw : ∃ i, Wr ops t i
      · obtain ⟨i, hi⟩ := hw
        rcases ho.look j o t i hoj hX hi with ⟨hij, e, he, hbe, hei⟩ | ⟨hji, q, hq, e, he, hbe, hej⟩
        · rcases ht.some_ ho.uniq hi j (by omega) hij s hs' with rfl | ⟨rfl, hok⟩
          · trivial
          · exact hm.gr.fr.slots t _ trivial (hm.done i t (by rw [← hei]; exact hafter e he hbe) hi htl)
        · rcases ht.none_ j (by omega) (fun i' hi' hw' => by have := ho.uniq _ _ _ hi hw'; omega) s hs' with rfl | ⟨h2, hok⟩
          · trivial
          · refine hm.gr.fr.slots t _ trivial (hm.still t s (fun i' hi' => ?_) (by rw [← h0]; exact h2))
            obtain rfl := ho.uniq _ _ _ hi hi'
            cases hli : listed.getD i false with
            | false => rfl
            | true =>
              have := hm.closed i q hq hli e he hbe
              rw [hej, hf] at this; cases this
      · rcases ht.none_ j (by omega) (fun i _ hi => hw ⟨i, hi⟩) s hs' with rfl | ⟨h2, hok⟩
        · trivial
        · exact hm.gr.fr.slots t _ trivial (hm.still t s (fun i hi => absurd ⟨i, hi⟩ hw) (by rw [← h0]; exact h2))
    have hwant : Region.wanted o (yielded ops a.tmps) = b := by
      refine hguard (fun t => ∃ g want, o.guard = some (g, want) ∧ (ops[g]?).bind (·.dst) = some t) E a.tmps w ⟨by show (T j).t.length = _; rw [hjl, ← hm.len]; exact hm.gr.fr.len, fun t s hX hs' => ?_, fun i tv hi => ?_, fun i e t xs hi => ?_, hm.gr.fr.inj, hm.gr.fr.inv⟩ (fun g want t hg hgt => ⟨g, want, hg, hgt⟩)
      · obtain ⟨g, want, hg, hgt⟩ := hX
        have hX : t ∈ looks ops o := by
          unfold looks
          rw [hg]; simp only [hgt]
          exact List.mem_append_right _ (by simp)
        exact hslot t s hX hs'
      · obtain ⟨h1, _⟩ := dimB_get _ _ _ _ hi; cases h1
      · obtain ⟨h1, _⟩ := dimB_get _ _ _ _ hi; cases h1
    -- the next state
    have next : ∀ v E' w' hs' p', GR C m0 w0 E' hs' (a.put o.dst v).tmps w' → (∀ t, o.dst = some t → t < st.t.length → hs'.t[t]? = some (S j)) → (∀ t s, o.dst ≠ some t → hs.t[t]? = some s → hs'.t[t]? = some s) → hs'.t.length = hs.t.length → hs'.b.length = hs.b.length →
        p' ≤ ops.size → (∀ e, e < ops.size → F e ≠ none → (e < p' ↔ (listed.setIfInBounds j true).getD e false = true)) →
        (∀ q ∈ al, listed.getD q.1 false = false → q.1 ≠ j → hs'.b[q.2.1]? = some none ∧ E'.β q.2.1 = none ∧ E'.τ q.2.1 = none) →
        (∀ k, (∀ q ∈ al, q.2.1 = k → q.1 = j ∨ listed.getD q.1 false = true) → hs'.b[k]? = (T p').b[k]?) → wpAny P .any ops Q fuel (listed.setIfInBounds j true) (a.put o.dst v) w' := by
      intro v E' w' hs' p' hg hdst hoth hcl hbl hp1 hp2 hp3 hp4
      refine ih _ E' _ w' hs' p' ?_ ?_
      · have := left_set hlt' hf; omega
      · refine ⟨by rw [Array.size_setIfInBounds]; exact hm.size, fun i q hq hli e he hbe => ?_, fun i t hli hw htl => ?_, fun t s hn hst => ?_, by rw [hcl]; exact hm.len, by rw [hbl]; exact hm.blen, hp1, hp2, fun q hq hlq => ?_, fun k hk => ?_, hg, by rw [put_defers]; exact hm.defers⟩
        · rw [set_getD hlt'] at hli ⊢
          split
          · rfl
          · split at hli
            · rename_i hji; subst hji
              obtain rfl : o = q := Option.some.inj (hoj.symm.trans hq)
              exact hafter e he hbe
            · exact hm.closed i q hq hli e he hbe
        · rw [set_getD hlt'] at hli
          by_cases hji : j = i
          · subst hji
            obtain ⟨q, hq, hd⟩ := hw
            obtain rfl : o = q := Option.some.inj (hoj.symm.trans hq)
            exact hdst t hd htl
          · rw [if_neg hji] at hli
            exact hoth t _ (fun hd => hji (ho.uniq _ _ _ ⟨o, hoj, hd⟩ hw)) (hm.done i t hli hw htl)
        · have hne : o.dst ≠ some t := fun hd => by
            have := hn j ⟨o, hoj, hd⟩
            rw [set_getD hlt', if_pos rfl] at this; cases this
          refine hoth t s hne (hm.still t s (fun i hi => ?_) hst)
          have := hn i hi
          rw [set_getD hlt'] at this
          split at this
          · cases this
          · exact this
        · rw [set_getD hlt'] at hlq
          split at hlq
          · cases hlq
          · rename_i hne; exact hp3 q hq hlq (fun hh => hne hh.symm)
        · refine hp4 k fun q hq hqk => ?_
          have := hk q hq hqk
          rw [set_getD hlt'] at this
          split at this
          · rename_i hh; exact .inl hh.symm
          · exact .inr this
    have stay : ∀ v E' w', F j = none → (∀ q ∈ al, q.1 ≠ j) → E'.β = E.β → E'.τ = E.τ → GR C m0 w0 E' (hs.put o.dst (S j)) (a.put o.dst v).tmps w' → wpAny P .any ops Q fuel (listed.setIfInBounds j true) (a.put o.dst v) w' := fun v E' w' hF hna hβ hτ hg =>
      next v E' w' _ p hg (fun t hd htl => by
        rw [hd]
        show (hs.t.set t (S j))[t]? = _
        rw [List.getElem?_set_self (by rw [hm.len]; exact htl)]) (fun t s hd hs' => by
        cases hd' : o.dst with
        | none => exact hs'
        | some d =>
          show (hs.t.set d (S j))[t]? = _
          rw [List.getElem?_set_ne (fun hh => hd (by rw [hd', hh]))]; exact hs') (by cases o.dst <;> simp [St.put]) (by rw [put_bb]) hm.ple (fun e he hfe => by
        have hne : j ≠ e := fun h => by subst h; exact hfe hF
        rw [set_getD hlt', if_neg hne]
        exact hm.prog e he hfe) (fun q hq hlq _ => by rw [put_bb, hβ, hτ]; exact hm.hid q hq hlq) (fun k hk => by
        rw [put_bb]
        exact hm.vis k fun q hq hqk => (hk q hq hqk).resolve_left (hna q hq))
    have notal : NotAl o → ∀ q ∈ al, q.1 ≠ j := fun hn q hq hqj => by
      obtain ⟨o', ho', ty, _, _, hop, _⟩ := hal q hq
      rw [hqj] at ho'
      obtain rfl : o = o' := Option.some.inj (hoj.symm.trans ho')
      exact hn ty hop
    unfold wpOp
    rw [hoj]
    simp only
    rw [hwant]
    rcases hcase with ⟨rfl, hF, hS, _⟩ | ⟨rfl, hF, _, hok, hL⟩ | ⟨rfl, f, hF, hS, hT', ⟨⟨_, hna, hok⟩, _⟩, hL⟩
    · rw [if_neg (by simp)]
      refine stay undef E w hF (fun q hq hqj => ?_) rfl rfl ?_
      · obtain ⟨o', ho', ty, _, _, hop, hgd, _⟩ := hal q hq
        rw [hqj] at ho'
        obtain rfl : o = o' := Option.some.inj (hoj.symm.trans ho')
        unfold Region.wanted at hwant
        rw [hgd] at hwant
        cases hwant
      · rw [hS]; exact hm.gr.put_undef o.dst
    · rw [if_pos rfl]
      have hsee : ∀ q, q ∈ seen ops (T j) o → q ∈ L j := fun q hq => by rw [hL]; exact List.mem_append_left _ (List.mem_append_left _ hq)
      rcases hok with ⟨hok, hna⟩ | ⟨q, hq, hqo, ⟨ty, inf, z, hop, hgd, hds, hinf, hz, hel, hrz⟩, hSj⟩
      · have hna' := notal hna
        have hbox : ∀ q c, (dimB (seen ops (T j) o) 0 (T j).b)[q]? = some (some c) → hs.b[q]? = some (some c) := fun q c hq => by
          obtain ⟨h1, h2⟩ := dimB_get _ _ _ _ hq
          rw [Nat.zero_add] at h1
          rw [hm.vis q fun q' hq' hqk => ahead_j _ (hla q' hq' j hlt (by rw [hqk]; exact hsee q h1) (fun hh => hna' q' hq' hh.symm))]
          rcases Nat.le_total p j with hpj | hjp
          · have := ht.bup (a := p) (q := q) (c := c) (j - p) (by omega) (fun e f h3 h4 hfe hbx => by
              have hel : e < ops.size := by omega
              rcases hl.look e j f hel hlt hfe (by rw [hbx]; exact hsee q h1) (by omega) with h5 | h5
              · have := h5.lt; omega
              · have := (hm.prog e hel (by rw [hfe]; simp)).2 (ahead_j e h5); omega)
            rw [show p + (j - p) = j by omega] at this
            exact this h2
          · have hple := hm.ple
            have := ht.bdown h2 (p - j) (by omega) (fun e f h3 h4 hfe hbx => by
              have hel : e < ops.size := by omega
              have hne : e ≠ j := fun h => by subst h; rw [hF] at hfe; cases hfe
              rcases hl.look e j f hel hlt hfe (by rw [hbx]; exact hsee q h1) hne with h5 | h5
              · have h6 := j_ahead e h5
                have := (hm.prog e hel (by rw [hfe]; simp)).1 (by omega)
                rw [h6] at this; cases this
              · have := h5.lt; omega) (fun e k h3 h4 ha hk => noAp e k (by omega) ha)
            rw [show j + (p - j) = p by omega] at this
            exact this
        have hfr : FR (· ∈ reads o) E ((T j).dim (seen ops (T j) o)) a.tmps w :=
          ⟨by show (T j).t.length = _; rw [hjl, ← hm.len]; exact hm.gr.fr.len, fun t s hX hs' => hslot t s (List.mem_append_left _ hX) hs', fun i tv hi => hm.gr.fr.boxes i tv (hbox i _ hi), fun i e t xs hi => hm.gr.fr.arrs i e t xs (hbox i _ hi), hm.gr.fr.inj, hm.gr.fr.inv⟩
        exact .inl (hok E a w _ Q hfr hm.gr.gl fun v m' w' hcg hi hs' => stay v { E with m := m' } w' hF hna' rfl rfl (hm.gr.of_chg hcg hi hs' o.dst))
      · -- a variable is made
        obtain ⟨d, hd⟩ := Option.isSome_iff_exists.1 hds
        have hqj : q.1 = j := ho.uniq _ _ _ ⟨o, hqo, hd⟩ ⟨o, hoj, hd⟩
        obtain ⟨hk0, hβ0, hτ0⟩ := hm.hid q hq (by rw [hqj]; exact hf)
        have hrun : (execOp a.eval o).run P w = .ok (.value (.pointer (some ⟨w.heap.size, 0, none⟩))) { w with heap := w.heap.push (.cells z.cells ty) } := by
          unfold execOp
          simp only [hop, Instr.alloc, Sem.run_bind, run_zeroValue hinf hz, newVar, newRow, run_newObj, Sem.run_pure, Result.andThen_ok]
        obtain ⟨E', hb', hoth, hg'⟩ := hm.gr.newAt (tv := q.2.2) (cs := z.cells.toList) (e := ty) hk0 hβ0 hτ0 (hnb q hq) hel hrz
        refine .inl ?_
        unfold Oper.wp
        rw [hrun]
        have hg2 := hg'.putS o.dst (s := .v ⟨.ptr q.2.1 0 q.2.2.t, ()⟩) (v := .pointer (some ⟨w.heap.size, 0, none⟩)) ⟨[_], ⟨w.heap.size, hb', rfl⟩, rfl⟩ a rfl
        rw [Array.toArray_toList, ← hSj] at hg2
        have hkl : q.2.1 < hs.b.length := (List.getElem?_eq_some_iff.1 hk0).1
        have hbx : ∀ k : Nat, ((⟨hs.t, hs.b.set q.2.1 (some (.one q.2.2))⟩ : St).put o.dst (S j)).b[k]? = (hs.b.set q.2.1 (some (.one q.2.2)))[k]? := fun k => by rw [put_bb]
        refine next _ E' _ _ p hg2 (fun t hd' htl => ?_) (fun t s hd' hs' => ?_) (by rw [hd]; simp [St.put]) (by rw [put_bb]; simp) hm.ple (fun e he hfe => ?_) (fun q' hq' hlq hqne => ?_) (fun k hk => ?_)
        · rw [hd']
          show (hs.t.set t (S j))[t]? = _
          rw [List.getElem?_set_self (by rw [hm.len]; exact htl)]
        · rw [hd]
          show (hs.t.set d (S j))[t]? = _
          rw [List.getElem?_set_ne (fun hh => hd' (by rw [hd, hh]))]; exact hs'
        · have hne : j ≠ e := fun h => by subst h; exact hfe hF
          rw [set_getD hlt', if_neg hne]
          exact hm.prog e he hfe
        · have hkne : q'.2.1 ≠ q.2.1 := fun hh => hqne (by rw [hu2 q' hq' q hq hh]; exact hqj)
          rw [hbx, List.getElem?_set_ne (fun hh => hkne hh.symm), (hoth _ hkne).1, (hoth _ hkne).2]
          exact hm.hid q' hq' hlq
        · rw [hbx]
          by_cases hkq : k = q.2.1
          · subst hkq
            rw [List.getElem?_set_self hkl]
            have := ht.bdown (a := 0) (h0b q hq) p (by have := hm.ple; omega) (fun e f h3 h4 hfe hbx' => by
              have hple := hm.ple
              have hel : e < ops.size := by omega
              have hle := (hm.prog e hel (by rw [hfe]; simp)).1 (by omega)
              have hLe : q.2.1 ∈ L e := by
                obtain ⟨b', hc', _⟩ := ht.step e ops[e] (Nat.zero_le _) (Array.getElem?_eq_getElem hel)
                rcases hc' with ⟨_, h1, _⟩ | ⟨_, h1, _⟩ | ⟨_, f', h1, _, _, _, h2⟩
                · rw [hfe] at h1; cases h1
                · rw [hfe] at h1; cases h1
                · obtain rfl := Option.some.inj (hfe.symm.trans h1)
                  rw [h2, hbx']
                  exact List.mem_append_right _ (by simp)
              have h5 := hla q hq e hel hLe (fun hh => by rw [hh, hqj, hF] at hfe; cases hfe)
              have := h5.closed hm.closed hle
              rw [hqj, hf] at this; cases this) (fun e k h3 h4 ha _ => noAp e k (by have := hm.ple; omega) ha)
            rw [Nat.zero_add] at this
            exact this.symm
          · rw [List.getElem?_set_ne (fun hh => hkq hh.symm)]
            refine hm.vis k fun q' hq' hqk => (hk q' hq' hqk).resolve_left fun hh => hkq ?_
            rw [← hqk, hu1 q' hq' q hq (hh.trans hqj.symm)]
    · rw [if_pos rfl]
      obtain ⟨i, bx, rfl⟩ := hset j f hlt hF
      have hok := hok i bx rfl
      have hna' := notal hna
      have hFj : F j ≠ none := by rw [hF]; simp
      have hpj : p ≤ j := by
        rcases Nat.lt_or_ge j p with h | h
        · have := (hm.prog j hlt hFj).1 h; rw [hf] at this; cases this
        · exact h
      have hcb : (T p).b = (T j).b := by
        have := ht.bstay (a := p) (j - p) (by omega) (fun e h1 h2 => by
          have hel : e < ops.size := by omega
          cases hfe : F e with
          | none => rfl
          | some f' =>
            have := (hm.prog e hel (by rw [hfe]; simp)).2 (ahead_j e (hl.tot e j hel hlt (by rw [hfe]; simp) hFj (by omega)))
            omega)
        rw [show p + (j - p) = j by omega] at this
        exact this.symm
      have hiv : ∀ q ∈ al, q.2.1 = i → listed.getD q.1 false = true := fun q hq hqi => ahead_j _ (hla q hq j hlt (by rw [hL, hqi]; exact List.mem_append_right _ (by simp [Eff.box])) (fun hh => hna' q hq hh.symm))
      have hfr : FR (· ∈ reads o) E ⟨(T j).t, []⟩ a.tmps w :=
        ⟨by show (T j).t.length = _; rw [hjl, ← hm.len]; exact hm.gr.fr.len, fun t s hX hs' => hslot t s (List.mem_append_left _ hX) hs', fun i tv hi => by simp at hi, fun i e t xs hi => by simp at hi, hm.gr.fr.inj, hm.gr.fr.inv⟩
      refine .inl (hok m0 w0 E a w hs _ Q hfr (by rw [hm.vis i hiv, hcb]) hm.gr fun v w' hg => next v E w' _ (j + 1) hg (fun t hd htl => ?_) (fun t s hd hs' => ?_) ?_ ?_ hlt (fun e he hfe => ?_) (fun q hq hlq _ => ?_) (fun k hk => ?_))
      · rw [hd, ap_dst _ t hs (by rw [hm.len]; exact htl), hS]; rfl
      · exact ap_stay _ _ hs t hd hs' fun k e u zs hh => by rcases hh with hh | ⟨hh, _⟩ <;> cases hh
      · exact ap_len _ _ _
      · show (hs.b.set i _).length = _; rw [List.length_set]
      · rw [set_getD hlt']
        by_cases hje : j = e
        · subst hje; rw [if_pos rfl]; simp
        · rw [if_neg hje]
          rcases Nat.lt_or_ge e j with h | h
          · have := ahead_j e (hl.tot e j he hlt hfe hFj h)
            rw [this]; simp; omega
          · have := j_ahead e (hl.tot j e hlt he hFj hfe (by omega))
            rw [this]; simp; omega
      · show (hs.b.set i _)[q.2.1]? = _ ∧ _
        rw [List.getElem?_set_ne (fun hh => by have := hiv q hq hh.symm; rw [hlq] at this; cases this)]
        exact hm.hid q hq hlq
      · have hv : hs.b[k]? = (T j).b[k]? := by
          rw [hm.vis k fun q hq hqk => (hk q hq hqk).resolve_left (hna' q hq), hcb]
        rw [hT']
        show (hs.b.set i _)[k]? = ((T j).b.set i _)[k]?
        rw [List.getElem?_set, List.getElem?_set, hv, hm.blen, hblen j (by omega)]

theorem draw_any {sp : Specs} (hsp : ∀ g s, sp g = some s → SoundX P C g s) {n : Nat} {ops : Array Oper} {st : St} {K : St → Option R} {r : R} {E : Env} {a : Act} {w : World} {Q : Exit → Act → World → Prop} {ds : List Deferred} (hd : drawOk P ops = true)
    (h : drawS P sp n ops st K = some r) (hg : GR C m0 w0 E st a.tmps w) (hds : a.defers = ds)
    (hQ : ∀ st' E' a' w', K st' = some r → GR C m0 w0 E' st' a'.tmps w' → a'.defers = ds → Q .normal a' w') : wpAny P .any ops Q ops.size (Array.replicate ops.size false) a { w with drawn := w.drawn + 1 } := by
  obtain ⟨hmix, ho⟩ := ord_of hd
  unfold drawS at h
  split at h
  · rename_i al hals
    obtain ⟨hq, hpw⟩ := alsK_ok _ _ _ _ hals
    have hal : ∀ q ∈ al, ∃ o, ops[q.1]? = some o ∧ AlOK P o q.2.2 := fun q hm => by
      obtain ⟨i, hi⟩ := List.mem_iff_getElem?.1 hm
      obtain ⟨_, _, o, ho', ha⟩ := hq i q hi
      exact ⟨o, by simpa using ho', ha⟩
    obtain ⟨S, T, L, F, G, hT, hK, ht, ⟨hlog, hlal⟩, hmem, _, hP⟩ := opsP_ok hsp hal ops.toList 0 _ [] rfl (Nat.zero_le _) h
    rw [List.append_nil] at hlog hlal
    have hc : Chg C E.m w E.m { w with drawn := w.drawn + 1 } := ⟨rfl, rfl, rfl, fun _ => Nat.le_succ _, Nat.le_refl _, fun _ _ _ => rfl, fun _ _ _ => rfl, fun _ _ _ q => q⟩
    have hnone : ∀ i, (Array.replicate ops.size false).getD i false = false := fun i => by
      rw [Array.getD_eq_getD_getElem?, Array.getElem?_replicate]; split <;> rfl
    have hleft : (left_ (Array.replicate ops.size false)).length ≤ ops.size := by
      unfold left_
      refine Nat.le_trans (List.length_filter_le _ _) ?_
      simp
    by_cases hne : al = []
    · subst hne
      have hT' : T 0 = st := by rw [hT]; unfold addA; simp
      refine draw_ok ho (log_of hlog hmem hP) ht hT' (fun E' a' w' hg' hd' => hQ _ E' a' w' hK hg' hd') ops.size _ E a _ st 0 hleft ?_
      refine ⟨by simp, fun i o _ h => ?_, fun i t h => ?_, fun t s _ hs _ => hs, rfl, Nat.zero_le _, fun e he _ => ?_, by rw [hT'], ⟨⟨hg.fr.len, hg.fr.slots, hg.fr.boxes, hg.fr.arrs, hg.fr.inj, hg.fr.inv⟩, hg.chg.trans hc (fun _ _ q => q.elim), hg.own, hg.lt, hg.top, hg.gl, hg.fx⟩, hds⟩
      · rw [hnone] at h; cases h
      · rw [hnone] at h; cases h
      · rw [hnone]; simp
    · have hix : ∀ q ∈ al, ∃ i, al[i]? = some q ∧ q.2.1 = st.b.length + i := fun q hm => by
        obtain ⟨i, hi⟩ := List.mem_iff_getElem?.1 hm
        exact ⟨i, hi, (hq i q hi).1⟩
      have hlt_ : ∀ (i1 i2 : Nat) (q1 q2 : Nat × Nat × TV), al[i1]? = some q1 → al[i2]? = some q2 → i1 < i2 → q1.1 < q2.1 := fun i1 i2 q1 q2 h1 h2 hi => by
        obtain ⟨l1, e1⟩ := List.getElem?_eq_some_iff.1 h1
        obtain ⟨l2, e2⟩ := List.getElem?_eq_some_iff.1 h2
        have := List.pairwise_iff_getElem.1 hpw i1 i2 l1 l2 hi
        rw [e1, e2] at this; exact this
      have hu2 : ∀ q ∈ al, ∀ q' ∈ al, q.2.1 = q'.2.1 → q = q' := fun q hm q' hm' he => by
        obtain ⟨i, h1, h2⟩ := hix q hm
        obtain ⟨i', h1', h2'⟩ := hix q' hm'
        have : i = i' := by omega
        subst this
        exact Option.some.inj (h1.symm.trans h1')
      have hu1 : ∀ q ∈ al, ∀ q' ∈ al, q.1 = q'.1 → q = q' := fun q hm q' hm' he => by
        obtain ⟨i, h1, h2⟩ := hix q hm
        obtain ⟨i', h1', h2'⟩ := hix q' hm'
        rcases Nat.lt_trichotomy i i' with h | h | h
        · have := hlt_ _ _ _ _ h1 h1' h; omega
        · subst h; exact Option.some.inj (h1.symm.trans h1')
        · have := hlt_ _ _ _ _ h1' h1 h; omega
      have h0b : ∀ q ∈ al, (T 0).b[q.2.1]? = some (some (.one q.2.2)) := fun q hm => by
        obtain ⟨i, h1, h2⟩ := hix q hm
        rw [hT]
        show (st.b ++ al.map _)[q.2.1]? = _
        rw [h2, List.getElem?_append_right (by omega), Nat.add_sub_cancel_left, List.getElem?_map, h1]; rfl
      have hil : ∀ (al : List (Nat × Nat × TV)) i, i < al.length → (al.map fun _ => (none : Option Bx))[i]? = some none := fun al i hi => by simp [hi]
      refine drawA_ok (st := st) ho (log_of hlog hmem hP) (al_of hlal hmem) hne hal hu1 hu2 (fun q hm => ?_) h0b ht (by rw [hT]; rfl) (fun E' a' w' hg' hd' => hQ _ E' a' w' hK hg' hd') ops.size _ E a _ ⟨st.t, st.b ++ al.map fun _ => none⟩ 0 hleft ?_
      · obtain ⟨i, _, h2⟩ := hix q hm
        have := hg.fx.1; omega
      have gb : ∀ i c, (st.b ++ al.map fun _ => (none : Option Bx))[i]? = some (some c) → st.b[i]? = some (some c) := fun i c hi => by
        by_cases hlt : i < st.b.length
        · rw [List.getElem?_append_left hlt] at hi; exact hi
        · rw [List.getElem?_append_right (by omega), List.getElem?_map] at hi
          cases hq : al[i - st.b.length]? with
          | none => rw [hq] at hi; cases hi
          | some q => rw [hq] at hi; cases hi
      refine ⟨by simp, fun i o _ h => ?_, fun i t h => ?_, fun t s _ hs => hs, rfl, ?_, Nat.zero_le _, fun e he _ => ?_, fun q hm _ => ?_, fun k hk => ?_, ⟨⟨hg.fr.len, hg.fr.slots, fun i tv hi => hg.fr.boxes i tv (gb i _ hi), fun i e t xs hi => hg.fr.arrs i e t xs (gb i _ hi), hg.fr.inj, hg.fr.inv⟩, hg.chg.trans hc (fun _ _ q => q.elim), hg.own, hg.lt, fun i hi => hg.top i (by simp at hi; omega), hg.gl, ⟨by have := hg.fx.1; simp; omega, fun i g hi hf tv ht => hg.fx.2 i g hi hf tv (gb i _ ht)⟩⟩, hds⟩
      · rw [hnone] at h; cases h
      · rw [hnone] at h; cases h
      · rw [hT]; simp [addA]
      · rw [hnone]; simp
      · obtain ⟨i, h1, h2⟩ := hix q hm
        have hil : i < al.length := (List.getElem?_eq_some_iff.1 h1).1
        refine ⟨?_, hg.top _ (by omega)⟩
        show (st.b ++ al.map _)[q.2.1]? = _
        rw [h2, List.getElem?_append_right (by omega), Nat.add_sub_cancel_left]
        simp [hil]
      · rw [hT]
        show (st.b ++ al.map _)[k]? = (st.b ++ al.map _)[k]?
        by_cases hlt : k < st.b.length
        · rw [List.getElem?_append_left hlt, List.getElem?_append_left hlt]
        · rw [List.getElem?_append_right (by omega), List.getElem?_append_right (by omega)]
          cases hq' : al[k - st.b.length]? with
          | none => simp [List.getElem?_map, hq']
          | some q =>
            have := hk q (List.mem_of_getElem? hq') (by rw [(hq _ q hq').1]; omega)
            rw [hnone] at this; cases this
  · cases h
theorem wp_then {o : Oper} {a : Act} {w : World} {K X : Act → World → Prop} {Q : Exit → Act → World → Prop} (h : o.wp P a w K (Exit.then X Q)) : o.wp P a w K Q := by
  unfold Oper.wp at *
  generalize (execOp a.eval o).run P w = r at *
  cases r with
  | ok n w' =>
    cases n <;> simp only [Oper.upon] at h ⊢ <;>
      first
        | exact h
        | exact Calls.mono h (fun e w'' he => by cases e <;> exact he)
  | halt x w' => cases x <;> simp only [Oper.upon] at h ⊢ <;> exact h
theorem wpAny_last {ops ops' : Array Oper} {o : Oper} {Q : Exit → Act → World → Prop} (hs : ops.size = ops'.size + 1) (hpre : ∀ i, i < ops'.size → ops[i]? = ops'[i]?) (hlast : ops[ops'.size]? = some o) (ho : Ord ops')
    (hcov : ∀ j, j < ops'.size → Ahead ops j ops'.size) (hgd : ∀ (i : Nat) (q : Oper) (g : Nat) (b : Bool), ops'[i]? = some q → q.guard = some (g, b) → g < ops'.size) (hback : ∀ e ∈ o.after, Region.binds .any e = true → e.on < ops'.size) :
    ∀ (fuel : Nat) (listed : Array Bool) (a : Act) (w : World), listed.size = ops'.size → (∀ i q, ops'[i]? = some q → listed.getD i false = true → ∀ e ∈ q.after, Region.binds .any e = true → listed.getD e.on false = true) →
      wpAny P .any ops' (Exit.then (wpOp P ops Q ops'.size (Q .normal)) Q) fuel listed a w → wpAny P .any ops Q (fuel + 1) (listed.push false) a w := by
  have pget : ∀ (listed : Array Bool) (b : Bool) i, listed.size = ops'.size → i < ops'.size → (listed.push b).getD i false = listed.getD i false := fun listed b i hl hi => by
    rw [Array.getD_eq_getD_getElem?, Array.getD_eq_getD_getElem?, Array.getElem?_push, if_neg (by omega)]
  have plast : ∀ (listed : Array Bool) (b : Bool), listed.size = ops'.size → (listed.push b).getD ops'.size false = b := fun listed b hl => by
    rw [Array.getD_eq_getD_getElem?, Array.getElem?_push, if_pos hl.symm]; rfl
  -- an operation ahead of the last one is ready just if it is ready among these
  have rdy : ∀ (listed : Array Bool) i, listed.size = ops'.size → i < ops'.size → (i ∈ Region.ready .any ops (listed.push false) ↔ i ∈ Region.ready .any ops' listed) := fun listed i hl hi => by
    rw [mem_ready, mem_ready, getD_true (by rw [Array.size_push]; omega), getD_true (by omega), pget _ _ _ hl hi, hpre i hi]
    constructor
    · rintro ⟨h1, q, h2, h3⟩
      refine ⟨h1, q, h2, fun e he hb => ?_⟩
      have := ho.back i q h2 e he hb
      rw [← pget listed false e.on hl (by omega)]; exact h3 e he hb
    · rintro ⟨h1, q, h2, h3⟩
      refine ⟨h1, q, h2, fun e he hb => ?_⟩
      have := ho.back i q h2 e he hb
      rw [pget listed false e.on hl (by omega)]; exact h3 e he hb
  have rlast : ∀ (listed : Array Bool), listed.size = ops'.size → (∀ j, j < ops'.size → listed.getD j false = true) → ops'.size ∈ Region.ready .any ops (listed.push false) := fun listed hl hall => by
    rw [mem_ready, getD_true (by rw [Array.size_push]; omega), plast _ _ hl]
    refine ⟨rfl, o, hlast, fun e he hb => ?_⟩
    have := hback e he hb
    rw [pget _ _ _ hl this]; exact hall _ this
  have rall : ∀ (listed : Array Bool), listed.size = ops'.size → (∀ i q, ops'[i]? = some q → listed.getD i false = true → ∀ e ∈ q.after, Region.binds .any e = true → listed.getD e.on false = true) → ops'.size ∈ Region.ready .any ops (listed.push false) → ∀ j, j < ops'.size → listed.getD j false = true := fun listed hl hcl hr j hj => by
    rw [mem_ready] at hr
    obtain ⟨_, q, hq, hq2⟩ := hr
    obtain rfl : o = q := Option.some.inj (hlast.symm.trans hq)
    -- the list, with the last one, is closed
    have hcl2 : ∀ i q, ops[i]? = some q → (listed.push true).getD i false = true → ∀ e ∈ q.after, Region.binds .any e = true → (listed.push true).getD e.on false = true := fun i q hi h1 e he hb => by
      have hil : i < ops.size := (Array.getElem?_eq_some_iff.1 hi).1
      by_cases him : i < ops'.size
      · rw [pget _ _ _ hl him] at h1
        have hi' : ops'[i]? = some q := by rw [← hpre i him]; exact hi
        have := ho.back i q hi' e he hb
        rw [pget _ _ _ hl (by omega)]; exact hcl i q hi' h1 e he hb
      · have him' : i = ops'.size := by omega
        subst him'
        obtain rfl : o = q := Option.some.inj (hlast.symm.trans hi)
        have h3 := hback e he hb
        have h4 := hq2 e he hb
        rw [pget _ _ _ hl h3] at h4 ⊢; exact h4
    have := (hcov j hj).closed hcl2 (plast listed true hl)
    rw [pget _ _ _ hl hj] at this; exact this
  have noneL : ∀ (listed : Array Bool), listed.size = ops'.size → Region.ready .any ops' listed = [] → ∀ i, i < ops'.size → listed.getD i false = true := by
    intro listed hsz hr i
    induction i using Nat.strongRecOn with
    | _ i ih =>
      intro hi
      cases hf : listed.getD i false with
      | true => rfl
      | false =>
        have hmem : i ∈ Region.ready .any ops' listed := by
          rw [mem_ready]
          refine ⟨by rw [getD_true (by omega)]; exact hf, ops'[i], Array.getElem?_eq_getElem hi, fun e he hb => ?_⟩
          have := ho.back i _ (Array.getElem?_eq_getElem hi) e he hb
          exact ih e.on this (by omega)
        rw [hr] at hmem; cases hmem
  have hlt : ∀ (listed : Array Bool) i, listed.size = ops'.size → i ∈ Region.ready .any ops (listed.push false) → i < ops'.size + 1 := fun listed i hl hi => by
    rw [mem_ready] at hi
    obtain ⟨_, q, hq, _⟩ := hi
    have := (Array.getElem?_eq_some_iff.1 hq).1
    omega
  -- where all others are listed
  have fin : ∀ (fuel : Nat) (listed : Array Bool) (a : Act) (w : World), listed.size = ops'.size → (∀ j, j < ops'.size → listed.getD j false = true) → wpOp P ops Q ops'.size (Q .normal) a w → wpAny P .any ops Q (fuel + 1) (listed.push false) a w := fun fuel listed a w hl hall hw => by
    refine ⟨fun hr => ?_, fun i hi => ?_⟩
    · have := rlast listed hl hall
      rw [hr] at this; cases this
    · have him : i = ops'.size := by
        have h1 := hlt listed i hl hi
        by_cases h2 : i < ops'.size
        · have := (rdy listed i hl h2).1 hi
          rw [mem_ready, getD_true (by omega), hall i h2] at this
          cases this.1
        · omega
      subst him
      have hnr : Region.ready .any ops ((listed.push false).setIfInBounds ops'.size true) = [] := by
        refine List.eq_nil_iff_forall_not_mem.2 fun j hj => ?_
        rw [mem_ready] at hj
        obtain ⟨h1, q, hq, _⟩ := hj
        have hjl := (Array.getElem?_eq_some_iff.1 hq).1
        rw [getD_true (by rw [Array.size_setIfInBounds, Array.size_push]; omega), set_getD (by rw [Array.size_push]; omega)] at h1
        split at h1
        · cases h1
        · rename_i hne
          rw [pget _ _ _ hl (by omega), hall j (by omega)] at h1; cases h1
      refine wpOp_mono (fun a w hq => ?_) hw
      cases fuel with
      | zero => exact ⟨hnr, hq⟩
      | succ fuel => exact ⟨fun _ => hq, fun i hi => by rw [hnr] at hi; cases hi⟩
  intro fuel
  induction fuel with
  | zero =>
    intro listed a w hl hcl h
    exact fin 0 listed a w hl (noneL listed hl h.1) h.2
  | succ fuel ih =>
    intro listed a w hl hcl h
    by_cases hall : ∀ j, j < ops'.size → listed.getD j false = true
    · refine fin _ listed a w hl hall (h.1 (List.eq_nil_iff_forall_not_mem.2 fun j hj => ?_))
      rw [mem_ready] at hj
      obtain ⟨h1, q, hq, _⟩ := hj
      have hjl := (Array.getElem?_eq_some_iff.1 hq).1
      rw [getD_true (by omega), hall j hjl] at h1; cases h1
    · refine ⟨fun hr => ?_, fun i hi => ?_⟩
      · refine absurd (noneL listed hl (List.eq_nil_iff_forall_not_mem.2 fun j hj => ?_)) hall
        have hjl : j < ops'.size := by
          rw [mem_ready] at hj
          obtain ⟨_, q, hq, _⟩ := hj
          exact (Array.getElem?_eq_some_iff.1 hq).1
        have := (rdy listed j hl hjl).2 hj
        rw [hr] at this; cases this
      · have him : i < ops'.size := by
          have h1 := hlt listed i hl hi
          by_cases h2 : i < ops'.size
          · exact h2
          · have : i = ops'.size := by omega
            subst this
            exact absurd (rall listed hl hcl hi) hall
        have hi' := (rdy listed i hl him).1 hi
        have hstep := h.2 i hi'
        have hset : (listed.push false).setIfInBounds i true = (listed.setIfInBounds i true).push false := by
          apply Array.ext_getElem?
          intro k
          simp only [Array.getElem?_setIfInBounds, Array.getElem?_push, Array.size_push, Array.size_setIfInBounds]
          by_cases hk : i = k
          · subst hk
            simp [show i < listed.size by omega, show i ≠ listed.size by omega, show i < listed.size + 1 by omega]
          · by_cases hk2 : k = listed.size
            · subst hk2; simp [hk]
            · simp [hk, hk2]
        have hq : ops[i]? = ops'[i]? := hpre i him
        rw [mem_ready] at hi'
        obtain ⟨_, q, hqi, hqa⟩ := hi'
        have hw : ∀ tm, Region.wanted q (yielded ops tm) = Region.wanted q (yielded ops' tm) := fun tm => by
          unfold Region.wanted
          cases hgq : q.guard with
          | none => rfl
          | some gb =>
            obtain ⟨g, b⟩ := gb
            have := hgd i q g b hqi hgq
            show (yielded ops tm g == _) = (yielded ops' tm g == _)
            unfold yielded
            rw [hpre g this]
        have next : ∀ a w, wpAny P .any ops' (Exit.then (wpOp P ops Q ops'.size (Q .normal)) Q) fuel (listed.setIfInBounds i true) a w → wpAny P .any ops Q (fuel + 1) ((listed.push false).setIfInBounds i true) a w := fun a w hh => by
          rw [hset]
          refine ih _ a w (by rw [Array.size_setIfInBounds]; exact hl) (fun i2 q2 h1 h2 e he hb => ?_) hh
          rw [set_getD (by omega)] at h2 ⊢
          split
          · rfl
          · split at h2
            · rename_i hne heq
              subst heq
              obtain rfl : q = q2 := Option.some.inj (hqi.symm.trans h1)
              exact hqa e he hb
            · exact hcl i2 q2 h1 h2 e he hb
        unfold wpOp at hstep ⊢
        rw [hq, hqi]
        rw [hqi] at hstep
        simp only at hstep ⊢
        rw [hw]
        split
        · rename_i hwq
          rw [if_pos hwq] at hstep
          exact hstep.imp (fun h => Oper.wp_mono next (wp_then h)) id
        · rename_i hwq
          rw [if_neg hwq] at hstep
          exact next _ _ hstep
theorem init_ok {ops : Array Oper} (h : 0 < ops.size) : ops.size = (initO ops).size + 1 ∧ ∀ i, i < (initO ops).size → ops[i]? = (initO ops)[i]? := by
  unfold initO
  refine ⟨by simp; omega, fun i hi => ?_⟩
  simp only [List.size_toArray, List.length_dropLast, Array.length_toList] at hi
  show ops[i]? = ops.toList.dropLast.toArray[i]?
  simp [hi]
theorem region_draw_ok {sp : Specs} (hsp : ∀ g s, sp g = some s → SoundX P C g s) {n id : Nat} {ops : Array Oper} {st : St} {K : Ex → St → Option R} {r : R} {E : Env} {a : Act} {w : World} {Q : Exit → Act → World → Prop} {ds : List Deferred}
    (h : drawK P sp n ops st K = some r) (hg : GR C m0 w0 E st a.tmps w) (hds : a.defers = ds)
    (hQ : ∀ e st' E' a' w', K e st' = some r → GR C m0 w0 E' st' a'.tmps w' → a'.defers = ds → Q e.out a' w') : (Code.region id ops true).wp P Q a w := by
  unfold drawK at h
  split at h
  · split at h
    · rename_i hc
      obtain ⟨hd, hlo⟩ := hc
      obtain ⟨hmix, ho⟩ := ord_of hd
      simp only [lastOk, Bool.and_eq_true, decide_eq_true_eq, List.all_eq_true, List.mem_range] at hlo
      obtain ⟨hsz, hpre⟩ := init_ok hlo.1.1
      have hm : ops.size - 1 = (initO ops).size := by omega
      obtain ⟨E1, hg1⟩ := GR.frzL false _ E st hg
      obtain ⟨o, hlast⟩ : ∃ o, ops[(initO ops).size]? = some o := ⟨_, Array.getElem?_eq_getElem (by omega)⟩
      refine wp_region_any hmix ?_
      have hany := draw_any (Q := Exit.then (wpOp P ops Q (initO ops).size (Q .normal)) Q) (m0 := m0) (w0 := w0) (ds := ds) hsp hd h hg1 hds (fun st' E' a' w' hk hg' hd' => by
        show wpOp P ops Q (initO ops).size (Q .normal) a' w'
        unfold lastK at hk
        rw [hm, hlast] at hk
        simp only at hk
        obtain ⟨b, st2, hb, hg2, hw'⟩ := guardS_ok hk hg'
        unfold wpOp
        rw [hlast]
        simp only
        rw [hw']
        rcases bif_some hb with ⟨rfl, h2⟩ | ⟨rfl, h2⟩
        · rw [if_pos rfl]
          split at h2
          · rename_i x hx
            subst h2
            exact .inl (panO_ok hsp hx m0 w0 E' a' w' _ Q hg2 (fun st3 v E3 w3 hst hg3 => hQ .norm st3 E3 _ w3 hst hg3 (by rw [put_defers]; exact hd')) (fun T q m st3 E3 w3 hst hg3 => hQ _ st3 E3 a' w3 hst hg3 hd'))
          · obtain ⟨st3, hst3, hok⟩ := stepK_ok hsp h2
            exact .inl (hok m0 w0 E' a' w' _ Q hg2 fun v E3 w3 hg3 => hQ .norm st3 E3 _ w3 hst3 hg3 (by rw [put_defers]; exact hd'))
        · rw [if_neg (by simp)]
          exact hQ .norm _ E' _ w' h2 (hg2.put_undef o.dst) (by rw [put_defers]; exact hd'))
      have hpush : Array.replicate ops.size false = (Array.replicate (initO ops).size false).push false := by
        rw [hsz, Array.replicate_succ]
      have hres := wpAny_last (Q := Q) hsz hpre hlast ho (fun j hj => by
        have := (hlo.2 j (by omega)).1
        rw [hm] at this; exact reach_ahead _ _ _ this) (fun i q g b hi hgq => by
        have hil := (Array.getElem?_eq_some_iff.1 hi).1
        have := (hlo.2 i (by omega)).2
        rw [hpre i hil, hi] at this
        simp only [hgq, decide_eq_true_eq] at this
        omega) (fun e he hb => ?_) (initO ops).size _ a _ (by simp) (fun i q _ h => ?_) hany
      · rw [hpush, hsz]; exact hres
      · have h3 := hlo.1.2
        rw [hm, hlast] at h3
        simp only [List.all_eq_true] at h3
        have := h3 e (by simpa using he)
        rw [hb] at this
        simpa using this
      · rw [Array.getD_eq_getD_getElem?, Array.getElem?_replicate] at h
        split at h <;> cases h
    · cases h
  · split at h
    · rename_i hd
      obtain ⟨hmix, _⟩ := ord_of hd
      obtain ⟨E1, hg1⟩ := GR.frzL false _ E st hg
      exact wp_region_any hmix (draw_any hsp hd h hg1 hds (fun st' E' a' w' hk hg' hd' => hQ .norm st' E' a' w' hk hg' hd'))
    · cases h
end
end Go.Proofs.YtedenojeljjnaaaGreatDoorPi
