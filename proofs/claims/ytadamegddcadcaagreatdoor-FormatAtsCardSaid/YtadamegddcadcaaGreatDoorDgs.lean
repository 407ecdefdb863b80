import Derived.Test.YtadamegddcadcaaGreatDoorShl
import Derived.Test.YtadamegddcadcaaGreatDoorPiB
import Derived.WalkKit
import Derived.ProofKit
import Derived.Below
set_option linter.unusedVariables false
namespace Go.Proofs.YtadamegddcadcaaGreatDoorPi
open Go Go.Proofs Go.RowKit
set_option maxRecDepth 100000
set_option maxHeartbeats 4000000

theorem dig_check (B b : Nat) (bs : List Value) (w : World) (h : Lib.IsBuilder 78 5 B b bs w) :
    Calls Tryz.prog 53 #[.pointer (some ⟨b, 0, none⟩)] w fun e w' => e = .returned (.tuple #[]) ∧ (Lib.BuilderAt 78 5 B b (.pointer (some ⟨b, 0, none⟩)) bs w' ∧ Below B w w') := by
  obtain ⟨j, hj, hjs⟩ := Option.map_eq_some_iff.1 Tryz.Builder_Extra_154.sizeBuilder
  have X := Tryz.Builder_Extra_154
  rcases h with h | h
  · have c0 := h.cell0
    have hsh := h.shape
    have hf := h.frozen0
    go_enter Tryz.func53, Tryz.ntmps53
    go_wp2
    rw [Lib.run_to_unsafe w ⟨b, 0, none⟩ Tryz.underlying75 Tryz.underlying124 hj (by rw [hjs]; decide) hsh (Nat.zero_lt_succ 1)]
    simp only [Result.andThen]
    rw [Oper.upon_value]
    go_wp2
    rw [run_callFunc_extern Tryz.func78 (by kernel_rfl) (by kernel_rfl) (by kernel_rfl) (e := Extern.AbiNoEscape.same) (by kernel_rfl)]
    rw [Lib.run_noEscape]
    simp only [Result.andThen]
    rw [Oper.upon_value]
    go_wp2
    rw [Lib.run_from_unsafe w ⟨b, 0, none⟩ Tryz.underlying124 Tryz.underlying75 hj hsh X.liesBuilder]
    simp only [Result.andThen]
    rw [Oper.upon_value]
    go_wp2
    go_end0
    exact ⟨rfl, h.used _, (Below.refl B w).setCell (p := ⟨b, 0, none⟩) h.1 _⟩
  · have c0 := h.cell0
    go_enter Tryz.func53, Tryz.ntmps53
    go_wp2
    rw [Lib.run_neq_ptr_same w _ Tryz.underlying75 hj]
    go_wp2
    go_end0
    exact ⟨rfl, h, Below.refl B _⟩

theorem dig_write (B b : Nat) (bs : List Value) (c : Int) (w : World) (h : Lib.IsBuilder 78 5 B b bs w) (hlen : bs.length + 1 ≤ 140737488355328) (hBw : B ≤ w.heap.size) :
    Calls Tryz.prog 36 #[.pointer (some ⟨b, 0, none⟩), .int .u8 c] w fun e w' => e = .returned .nilIface ∧ (Lib.BuilderAt 78 5 B b (.pointer (some ⟨b, 0, none⟩)) (bs ++ [.int .u8 c]) w' ∧ Below B w w') := by
  have X := Tryz.Builder_Extra_154
  obtain ⟨i0, hi, hz0, hz1, hz2⟩ := info_parts X.infoByte
  go_enter Tryz.func36, Tryz.ntmps36
  go_wp2_with (go_at_call 53; refine (dig_check B b bs _ h).mono ?_)
  rintro e w1 ⟨rfl, h1, hb1⟩
  obtain ⟨hB, v, hbk, hown, hne⟩ := h1
  have c0 : w1.cell? ⟨b, 0, none⟩ = some (.pointer (some ⟨b, 0, none⟩)) := by rw [Lib.cell_of_heap hbk]; rfl
  have c1 : w1.cell? ⟨b, 1, none⟩ = some v := by rw [Lib.cell_of_heap hbk]; rfl
  go_wp2_with (at_builtin; refine wpList_append_own _ rfl _ _ 76 rfl B 5 i0 (.int .u8 0) 1 1 Tryz.underlying76 hi hz0 hz1 hz2 rfl (by decide) _ _ _ rfl (hown.alloc _) ⟨w1.heap.size, 0, none⟩ 1 1 [.int .u8 c] rfl rfl ?c1 ?c2 ?c3 ?c4 ?c5 ?_)
  case c1 =>
    intro j u hj
    match j, hj with
    | 0, hj => simp at hj; subst hj; simp [Addr.add]
  case c2 => intro u hu; simp at hu; subst hu; rfl
  case c3 => unfold maxLen; omega
  case c4 => omega
  case c5 => have := hb1.size; simp; omega
  intro v' w2 hown' hgrow _
  have hlt : b < w1.heap.size := by
    rcases Nat.lt_or_ge b w1.heap.size with h' | h'
    · exact h'
    · simp [Array.getElem?_eq_none h'] at hbk
  have hb2 : w2.heap[b]? = some (.cells #[.pointer (some ⟨b, 0, none⟩), v] 78 (0, 0)) := by
    rw [hgrow.block b (by simp; omega) (fun e => hne e.symm), Lib.alloc_old w1 _ b hlt]
    exact hbk
  have d0 : w2.cell? ⟨b, 0, none⟩ = some (.pointer (some ⟨b, 0, none⟩)) := by rw [Lib.cell_of_heap hb2]; rfl
  have d1 : w2.cell? ⟨b, 1, none⟩ = some v := by rw [Lib.cell_of_heap hb2]; rfl
  have f1 : w2.frozen? ⟨b, 1, none⟩ = false := Lib.frozen_of_heap hb2 1
  obtain ⟨g, cap, rfl⟩ : ∃ g cap, v' = .slice (some ⟨g, 0, none⟩) (bs.length + 1) cap := by
    rcases hown'.2 with ⟨_, h0⟩ | ⟨g, cap, cur, hv, _⟩
    · omega
    · exact ⟨g, cap, hv⟩
  go_wp2
  go_ret
  refine ⟨rfl, ?_, ?_⟩
  · exact Lib.BuilderAt.put (T := 78) (e := 5) hB hb2 (bs' := bs ++ [.int .u8 c]) (by simpa using hown') X.neB5
  · exact ((hb1.alloc (by have := hb1.size; omega) _).grown hgrow (by have := hb1.size; simp; omega) (fun k hk => (hown.lt k hk).1)).setCell (p := ⟨b, 1, none⟩) hB _
end Go.Proofs.YtadamegddcadcaaGreatDoorPi

namespace Go.Proofs.YtadamegddcadcaaGreatDoorPi
open Go Go.Proofs Go.RowKit
set_option maxRecDepth 100000
set_option maxHeartbeats 4000000

def unr (P : Program) (c : Code) (Q : Exit → Act → World → Prop) : Nat → Act → World → Prop
  | 0, _, _ => False
  | n + 1, a, w => c.wp P (Exit.then (unr P c Q n) Q) a w
theorem wp_loop_unr {P : Program} {c : Code} {Q : Exit → Act → World → Prop} {a : Act} {w : World} (n : Nat) (h : unr P c Q n a w) : (Code.loop c).wp P Q a w :=
  wp_loop_rounds (fun n a w => unr P c Q n a w) h fun n a w hn => by
    cases n with
    | zero => exact hn.elim
    | succ n => exact ⟨n, rfl, hn⟩

/-- The builder of a call, as it stands. -/
structure Bd2 (w0 : World) (l : List Value) (w : World) : Prop where
  b : Lib.IsBuilder 78 5 w0.heap.size w0.heap.size l w
  below : Below w0.heap.size w0 w
theorem Bd2.size {w0 w : World} {l : List Value} (h : Bd2 w0 l w) : w0.heap.size ≤ w.heap.size := h.below.size
theorem bd2_fresh (w : World) : Bd2 w [] (w.alloc (.cells #[.pointer none, .slice none 0 0] 78)) :=
  ⟨Lib.fresh_isBuilder 78 5 w, (Below.refl _ _).alloc (Nat.le_refl _) _⟩
theorem bd2_write {w0 w : World} {l : List Value} (h : Bd2 w0 l w) (hl : l.length + 1 ≤ 140737488355328) (c : Int) :
    Calls Tryz.prog 36 #[.pointer (some ⟨w0.heap.size, 0, none⟩), .int .u8 c] w fun e w' => e = .returned .nilIface ∧ Bd2 w0 (l ++ [.int .u8 c]) w' :=
  (dig_write _ _ l c w h.b hl h.size).mono fun _ _ ⟨he, hb, hw⟩ => ⟨he, .inr hb, h.below.trans hw⟩

theorem index3 (k : Nat) (x y z v : Value) (hk : #[x, y, z][k]? = some v) (w : World) : (Instr.index 88 (.agg #[x, y, z]) (.int .i64 k)).run Tryz.prog w = .ok v w := by
  have hlt : k < 3 := by
    have := (Array.getElem?_eq_some_iff.1 hk).1
    simpa using this
  unfold Instr.index
  have hs : (sizeOf 3).run Tryz.prog w = .ok 1 w := Tryz.sizeOf3 w
  have hi : (isAgg 3).run Tryz.prog w = .ok false w := Tryz.isAgg3 w
  have h1 : ((k : Int) < 3) := by omega
  simp only [asIntOf, Sem.run_bind, Sem.run_pure, Result.andThen_ok, run_underlying Tryz.underlying88]
  rw [if_pos ⟨by omega, by exact_mod_cast h1⟩]
  simp only [Sem.run_bind, hs, Result.andThen_ok, part, hi]
  simp only [Bool.false_eq_true, if_false, Int.toNat_natCast, Nat.mul_one]
  rw [hk]; rfl

def two2 (p : Int) : List Int := [48 + p / 10, 48 + p % 10]
/-- The digits of an offset, as numbers. -/
def digL (s m : Int) : List Int := s :: (two2 (m / 3600) ++ ((if m % 3600 ≠ 0 then two2 (m / 60 % 60) else []) ++ (if m % 60 ≠ 0 then two2 (m % 60) else [])))

theorem bytes_cells : ∀ (xs : List Int), (∀ x ∈ xs, 0 ≤ x ∧ x < 256) → xs.map (Value.int .u8) = Lib.byteCells (xs.map fun x => UInt8.ofNat x.toNat)
  | [], _ => rfl
  | x :: xs, h => by
    have hx := h x (by simp)
    have ih := bytes_cells xs (fun y hy => h y (by simp [hy]))
    simp only [Lib.byteCells, List.map_cons] at ih ⊢
    rw [ih]
    congr 2
    have : (UInt8.ofNat x.toNat).toNat = x.toNat := by
      rw [UInt8.toNat_ofNat']; omega
    rw [this]; omega
theorem bd2_string {w0 w : World} {l : List Value} (h : Bd2 w0 l w) (xs : List Int) (hl : l = xs.map (Value.int .u8)) (hx : ∀ x ∈ xs, 0 ≤ x ∧ x < 256) :
    Calls Tryz.prog 35 #[.pointer (some ⟨w0.heap.size, 0, none⟩)] w fun e w' => e = .returned (.string (ofBytes xs)) ∧ Below w0.heap.size w0 w' := by
  have hb := h.b
  rw [hl, bytes_cells xs hx] at hb
  refine (Tryz.Builder_String_any _ _ _ w hb h.size).mono fun e w' ⟨he, hw⟩ => ⟨he, h.below.trans hw⟩

theorem digL_range {s m : Int} (hs : 0 ≤ s ∧ s < 256) (h0 : 0 ≤ m) (h1 : m ≤ 180000) : ∀ x ∈ digL s m, 0 ≤ x ∧ x < 256 := by
  intro x hx
  unfold digL two2 at hx
  simp only [List.mem_cons, List.mem_append] at hx
  rcases hx with rfl | (rfl | rfl | hx) | hx | hx
  · exact hs
  · omega
  · omega
  · cases hx
  · split at hx
    · simp only [List.mem_cons, List.not_mem_nil, or_false] at hx
      rcases hx with rfl | rfl <;> omega
    · cases hx
  · split at hx
    · simp only [List.mem_cons, List.not_mem_nil, or_false] at hx
      rcases hx with rfl | rfl <;> omega
    · cases hx

theorem wsm (x : Int) (h0 : -9223372036854775808 ≤ x) (h1 : x ≤ 9223372036854775807) : wrap64 x = x := by
  unfold wrap64; omega

theorem dig_a {s m : Int} (h : m % 3600 = 0) : ([] ++ [Value.int .u8 s] ++ [Value.int .u8 (48 + m / 3600 / 10)] ++ [Value.int .u8 (48 + m / 3600 % 10)]) = (digL s m).map (Value.int .u8) := by
  have h6 : m % 60 = 0 := by omega
  unfold digL two2
  rw [if_neg (by omega), if_neg (by omega)]
  rfl
theorem dig_b {s m : Int} (h3 : ¬ m % 3600 = 0) (h6 : (m % 60 != 0) = true) : ([] ++ [Value.int .u8 s] ++ [Value.int .u8 (48 + m / 3600 / 10)] ++ [Value.int .u8 (48 + m / 3600 % 10)] ++ [Value.int .u8 (48 + m / 60 % 60 / 10)] ++ [Value.int .u8 (48 + m / 60 % 10)] ++ [Value.int .u8 (48 + m % 60 / 10)] ++ [Value.int .u8 (48 + m % 10)]) = (digL s m).map (Value.int .u8) := by
  have h6' : m % 60 ≠ 0 := by simpa using h6
  have e1 : m / 60 % 60 % 10 = m / 60 % 10 := by omega
  have e2 : m % 60 % 10 = m % 10 := by omega
  unfold digL two2
  rw [if_pos (by omega), if_pos h6', e1, e2]
  rfl
theorem dig_c {s m : Int} (h3 : ¬ m % 3600 = 0) (h6 : (m % 60 != 0) = false) : ([] ++ [Value.int .u8 s] ++ [Value.int .u8 (48 + m / 3600 / 10)] ++ [Value.int .u8 (48 + m / 3600 % 10)] ++ [Value.int .u8 (48 + m / 60 % 60 / 10)] ++ [Value.int .u8 (48 + m / 60 % 10)]) = (digL s m).map (Value.int .u8) := by
  have h6' : m % 60 = 0 := by simpa using h6
  have e1 : m / 60 % 60 % 10 = m / 60 % 10 := by omega
  unfold digL two2
  rw [if_pos (by omega), if_neg (by omega), e1]
  rfl

theorem digits_walk (n m s : Int) (h0 : 0 ≤ m) (h1 : m ≤ 180000) (hn : (n = m ∧ s = 43) ∨ (n = -m ∧ 0 < m ∧ s = 45)) (w : World) :
    Calls Tryz.prog 18 #[.int .i64 n] w fun e w' => e = .returned (.string (ofBytes (digL s m))) ∧ Below w.heap.size w w' := by
  have hD := bd2_fresh w
  have hr := digL_range (s := s) (m := m) (by rcases hn with ⟨_, rfl⟩ | ⟨_, _, rfl⟩ <;> omega) h0 h1
  have j0 : ∀ (a b c : Int) w, (Instr.index 88 (.agg #[.int .i64 a, .int .i64 b, .int .i64 c]) (.int .i64 0)).run Tryz.prog w = .ok (.int .i64 a) w := fun a b c w => index3 0 _ _ _ _ rfl w
  have j1 : ∀ (a b c : Int) w, (Instr.index 88 (.agg #[.int .i64 a, .int .i64 b, .int .i64 c]) (.int .i64 1)).run Tryz.prog w = .ok (.int .i64 b) w := fun a b c w => index3 1 _ _ _ _ rfl w
  have j2 : ∀ (a b c : Int) w, (Instr.index 88 (.agg #[.int .i64 a, .int .i64 b, .int .i64 c]) (.int .i64 2)).run Tryz.prog w = .ok (.int .i64 c) w := fun a b c w => index3 2 _ _ _ _ rfl w
  have e0 : wrap64 m = m := wsm _ (by omega) (by omega)
  have a1 : m.tdiv 3600 = m / 3600 := Int.tdiv_eq_ediv_of_nonneg h0
  have a2 : wrap64 (m / 3600) = m / 3600 := wsm _ (by omega) (by omega)
  have a3 : (m / 3600).tdiv 10 = m / 3600 / 10 := Int.tdiv_eq_ediv_of_nonneg (by omega)
  have a4 : wrap64 (m / 3600 / 10) = m / 3600 / 10 := wsm _ (by omega) (by omega)
  have a5 : (m / 3600).tmod 10 = m / 3600 % 10 := Int.tmod_eq_emod_of_nonneg (by omega)
  have b1 : m.tdiv 60 = m / 60 := Int.tdiv_eq_ediv_of_nonneg h0
  have b2 : wrap64 (m / 60) = m / 60 := wsm _ (by omega) (by omega)
  have b3 : (m / 60).tmod 60 = m / 60 % 60 := Int.tmod_eq_emod_of_nonneg (by omega)
  have b4 : (m / 60 % 60).tdiv 10 = m / 60 % 60 / 10 := Int.tdiv_eq_ediv_of_nonneg (by omega)
  have b5 : wrap64 (m / 60 % 60 / 10) = m / 60 % 60 / 10 := wsm _ (by omega) (by omega)
  have b6 : (m / 60 % 60).tmod 10 = m / 60 % 60 % 10 := Int.tmod_eq_emod_of_nonneg (by omega)
  have c1 : m.tmod 60 = m % 60 := Int.tmod_eq_emod_of_nonneg (by omega)
  have c2 : (m % 60).tdiv 10 = m % 60 / 10 := Int.tdiv_eq_ediv_of_nonneg (by omega)
  have c3 : wrap64 (m % 60 / 10) = m % 60 / 10 := wsm _ (by omega) (by omega)
  have c4 : (m % 60).tmod 10 = m % 60 % 10 := Int.tmod_eq_emod_of_nonneg (by omega)
  have d1 : m.tmod 3600 = m % 3600 := Int.tmod_eq_emod_of_nonneg (by omega)
  rcases hn with ⟨rfl, rfl⟩ | ⟨rfl, hm, rfl⟩
  all_goals go_enter Tryz.func18, Tryz.ntmps18
  all_goals go_wp2_with (go_at_call 36; refine (bd2_write hD (by simp) _).mono ?_; clear hD; rintro e w1 ⟨rfl, hD⟩)
  all_goals (try (exfalso; omega))
  all_goals (refine wp_loop_unr 4 ?_; unfold unr)
  all_goals (go_wp2_with (go_at_call 36; refine (bd2_write hD (by simp) _).mono ?_; clear hD; rintro e w1 ⟨rfl, hD⟩))
  all_goals (unfold unr; go_wp2_with (go_at_call 36; refine (bd2_write hD (by simp) _).mono ?_; clear hD; rintro e w1 ⟨rfl, hD⟩))
  all_goals (unfold unr; go_wp2_with (go_at_call 36; refine (bd2_write hD (by simp) _).mono ?_; clear hD; rintro e w1 ⟨rfl, hD⟩))
  all_goals (unfold unr; go_wp2_with (fail))
  all_goals (refine (bd2_string hD _ (by first | exact dig_a (by assumption) | exact dig_b (by assumption) (by assumption) | exact dig_c (by assumption) (by assumption)) hr).mono ?_)
  all_goals (rintro e w2 ⟨rfl, hw2⟩)
  all_goals go_wp2
  all_goals go_ret
  all_goals exact ⟨rfl, hw2⟩
end Go.Proofs.YtadamegddcadcaaGreatDoorPi

namespace Go.Proofs.YtadamegddcadcaaGreatDoorPi
open Go Go.Proofs Go.RowKit

/-- internal/bytealg.MaxLen holds some number. -/
def CG : Ctx := ⟨fun m => ∃ x, m 0 0 = some (.int .i64 x), fun h ⟨x, hx⟩ => ⟨x, h _ _ _ hx⟩, false⟩

theorem chg_same {C : Ctx} {m : Mem} {w : World} (n : Nat) : Chg C m w m (w.drewN n) := ⟨rfl, rfl, rfl, fun _ => Nat.le_add_right _ _, Nat.le_refl _, fun _ _ _ => rfl, fun _ _ => rfl⟩
theorem chg_below {m : Mem} {w w' : World} (h : Below w.heap.size w w') : Chg CG m w m w' := ⟨h.os, h.tape, h.output, (fun hd => by cases hd), h.size, fun b hb _ => h.block b hb, fun _ _ => rfl⟩
theorem inv_below {m : Mem} {w w' : World} (hi : Inv m w) (h : Below w.heap.size w w') : Inv m w' := fun b j v hv => by
  have h1 := hi b j v hv
  have hlt := cell_lt h1
  unfold World.cell? at h1 ⊢
  rw [h.block b hlt]; exact h1

def bs (l : List UInt8) : ByteArray := ⟨l.toArray⟩
def cutF (_n : Nat) (x : (Ty.pair .str (.pair .str .unit)).den) : Option (Ty.pair .str (.pair .str (.pair .bool .unit))).den :=
  if x.1.size < 4294967281 then some (bs (Lib.cut x.1.data.toList x.2.1.data.toList).1, (bs (Lib.cut x.1.data.toList x.2.1.data.toList).2.1, ((Lib.cut x.1.data.toList x.2.1.data.toList).2.2, ()))) else none
def cutS : Sp := ⟨_, _, cutF⟩
def containsF (_n : Nat) (x : (Ty.pair .str (.pair .str .unit)).den) : Option (Ty.pair .bool .unit).den :=
  if x.1.size < 4294967281 then some (Lib.contains x.1.data.toList x.2.1.data.toList, ()) else none
def containsS : Sp := ⟨_, _, containsF⟩
def replaceF (_n : Nat) (x : (Ty.pair .str (.pair .str (.pair .str (.pair (.int .i64) .unit)))).den) : Option (Ty.pair .str .unit).den :=
  if x.1.size < 4294967281 ∧ 1 ≤ x.2.1.size ∧ x.1.size + Lib.countB x.1 x.2.1 * x.2.2.1.size ≤ 140737488355328 then some (bs (Lib.replace x.1.data.toList x.2.1.data.toList x.2.2.1.data.toList x.2.2.2.1), ()) else none
def replaceS : Sp := ⟨_, _, replaceF⟩

theorem enter_of {f : FuncId} {fn : Func} (hf : Tryz.prog.funcs[f]? = some fn) (hn : (fn.name == "runtime.NumGoroutine") = false) (hb : fn.body.isNone = false) (args : Array Value) (w : World) : (callFunc f args).run Tryz.prog w = .ok (.enter f args) w := by
  unfold callFunc
  simp only [Sem.run_bind, run_program, Result.andThen_ok, hf, hn, hb, Bool.false_eq_true, if_false]
  rfl

theorem cut_ok : Sound Tryz.prog CG 15 cutS := by
  refine ⟨enter_of Tryz.func15 (by kernel_rfl) rfl, fun n x r h m β τ w vs hi hG hv => ?_⟩
  obtain ⟨v1, vs1, rfl, hv1, v2, vs2, rfl, hv2, h3⟩ := hv
  obtain rfl : vs2 = [] := h3
  rw [vrep_str hv1, vrep_str hv2]
  obtain ⟨k, hk⟩ := hG
  have h' : cutF n x = some r := h
  unfold cutF at h'
  split at h'
  · rename_i hs
    obtain rfl := Option.some.inj h'
    refine (Tryz.strings_Cut x.1 x.2.1 k w hs (hi _ _ _ hk)).mono ?_
    rintro e w' ⟨rfl, q, rfl⟩
    exact ⟨_, m, rfl, chg_same q, hi, _, ⟨_, _, rfl, mkStr _ _, _, _, rfl, mkStr _ _, _, _, rfl, mkBool _ _, rfl⟩, rfl⟩
  · cases h'
theorem contains_ok : Sound Tryz.prog CG 16 containsS := by
  refine ⟨enter_of Tryz.func16 (by kernel_rfl) rfl, fun n x r h m β τ w vs hi hG hv => ?_⟩
  obtain ⟨v1, vs1, rfl, hv1, v2, vs2, rfl, hv2, h3⟩ := hv
  obtain rfl : vs2 = [] := h3
  rw [vrep_str hv1, vrep_str hv2]
  obtain ⟨k, hk⟩ := hG
  have h' : containsF n x = some r := h
  unfold containsF at h'
  split at h'
  · rename_i hs
    obtain rfl := Option.some.inj h'
    refine (Tryz.strings_Contains x.1 x.2.1 k w hs (hi _ _ _ hk)).mono ?_
    rintro e w' ⟨rfl, rfl⟩
    exact ⟨_, m, rfl, .refl _ _, hi, mkBool _ _⟩
  · cases h'
theorem replace_ok : Sound Tryz.prog CG 17 replaceS := by
  refine ⟨enter_of Tryz.func17 (by kernel_rfl) rfl, fun n x r h m β τ w vs hi hG hv => ?_⟩
  obtain ⟨v1, vs1, rfl, hv1, v2, vs2, rfl, hv2, v3, vs3, rfl, hv3, v4, vs4, rfl, hv4, h3⟩ := hv
  obtain rfl : vs4 = [] := h3
  rw [vrep_str hv1, vrep_str hv2, vrep_str hv3, vrep_int hv4]
  obtain ⟨k, hk⟩ := hG
  have h' : replaceF n x = some r := h
  unfold replaceF at h'
  split at h'
  · rename_i hs
    obtain rfl := Option.some.inj h'
    refine (Tryz.strings_Replace x.1 x.2.1 x.2.2.1 x.2.2.2.1 k w hs.1 (hi _ _ _ hk) hs.2.1 hs.2.2).mono ?_
    rintro e w' ⟨rfl, hb⟩
    exact ⟨_, m, rfl, chg_below hb, inv_below hi hb, mkStr _ _⟩
  · cases h'
end Go.Proofs.YtadamegddcadcaaGreatDoorPi

namespace Go.Proofs.YtadamegddcadcaaGreatDoorPi
open Go Go.Proofs Go.RowKit
def digitsF (_n : Nat) (x : (Ty.pair (.int .i64) .unit).den) : Option (Ty.pair .str .unit).den :=
  if 0 ≤ x.1 ∧ x.1 ≤ 180000 then some (ofBytes (digL 43 x.1), ()) else if -180000 ≤ x.1 ∧ x.1 < 0 then some (ofBytes (digL 45 (-x.1)), ()) else none
def digitsS : Sp := ⟨_, _, digitsF⟩
theorem neg_ok (y : Int) (h : -180000 ≤ y ∧ y < 0) : (0 ≤ -y ∧ -y ≤ 180000) ∧ (y = - -y ∧ 0 < -y) := by omega
theorem digits_ok : Sound Tryz.prog CG 18 digitsS := by
  refine ⟨enter_of Tryz.func18 (by kernel_rfl) rfl, fun n x r h m β τ w vs hi hG hv => ?_⟩
  obtain ⟨v1, vs1, rfl, hv1, h3⟩ := hv
  obtain rfl : vs1 = [] := h3
  rw [vrep_int hv1]
  have h' : digitsF n x = some r := h
  unfold digitsF at h'
  split at h'
  · rename_i hs
    obtain rfl := Option.some.inj h'
    refine (digits_walk x.1 x.1 43 hs.1 hs.2 (.inl ⟨rfl, rfl⟩) w).mono ?_
    rintro e w' ⟨rfl, hb⟩
    exact ⟨_, m, rfl, chg_below hb, inv_below hi hb, mkStr _ _⟩
  · split at h'
    · rename_i hs
      obtain rfl := Option.some.inj h'
      refine (digits_walk x.1 (-x.1) 45 (neg_ok x.1 hs).1.1 (neg_ok x.1 hs).1.2 (.inr ⟨(neg_ok x.1 hs).2.1, (neg_ok x.1 hs).2.2, rfl⟩) w).mono ?_
      rintro e w' ⟨rfl, hb⟩
      exact ⟨_, m, rfl, chg_below hb, inv_below hi hb, mkStr _ _⟩
    · cases h'
end Go.Proofs.YtadamegddcadcaaGreatDoorPi

namespace Go.Proofs.YtadamegddcadcaaGreatDoorPi
open Go
theorem ChgX.ctx {X : Nat → Prop} {C C2 : Ctx} (hd : C.d = true → C2.d = true) {m m' : Mem} {w w' : World} (h : ChgX X C2 m w m' w') : ChgX X C m w m' w' :=
  ⟨h.os, h.tape, h.output, fun q => h.drawn (hd q), h.size, h.heap, h.mem⟩
/-- What is sound where less is known is sound where more is known. -/
theorem weak_ctx {P : Program} {C C2 : Ctx} (hΓ : ∀ m, C.Γ m → C2.Γ m) (hd : C.d = true → C2.d = true) {f : FuncId} : ∀ {s : SpX}, SoundX P C2 f s → SoundX P C f s
  | .f _, h => ⟨h.enter, fun n x r hr m β τ w vs hi hG hv => (h.calls n x r hr m β τ w vs hi (hΓ _ hG) hv).mono fun _ _ ⟨v, m', e, c, q⟩ => ⟨v, m', e, c.ctx hd, q⟩⟩
  | .i _, h => ⟨h.enter, fun n xs y ys hr m β τ w v l vs hi hG hv ho hp hm => (h.calls n xs y ys hr m β τ w v l vs hi (hΓ _ hG) hv ho hp hm).mono fun _ _ ⟨m', l', e, c, q⟩ => ⟨m', l', e, c.ctx hd, q⟩⟩
  | .o _, h => ⟨h.enter, fun n x r hr m β τ w vs hi hG hv => (h.calls n x r hr m β τ w vs hi (hΓ _ hG) hv).mono fun _ _ ⟨v, vs', l, m', e, c, q⟩ => ⟨v, vs', l, m', e, c.ctx hd, q⟩⟩
theorem weak_CG {C2 : Ctx} (hΓ : ∀ m, C2.Γ m) {P : Program} {f : FuncId} {s : SpX} (h : SoundX P C2 f s) : SoundX P CG f s := weak_ctx (fun m _ => hΓ m) (fun q => by cases q) h
theorem cut_okX : SoundX Tryz.prog CG 15 (.f cutS) := cut_ok
theorem contains_okX : SoundX Tryz.prog CG 16 (.f containsS) := contains_ok
theorem replace_okX : SoundX Tryz.prog CG 17 (.f replaceS) := replace_ok
theorem digits_okX : SoundX Tryz.prog CG 18 (.f digitsS) := digits_ok
end Go.Proofs.YtadamegddcadcaaGreatDoorPi
