import Derived.Test.YtedenojeljjnaaaGreatDoorPiC
import Derived.Test.YtedenojeljjnaaaGreatDoorProg
import Derived.WalkKit
import Derived.ProofKit
import Derived.Below
import Derived.Shelf.RegionOpenPlain
set_option linter.unusedVariables false
namespace Go.Proofs.YtedenojeljjnaaaGreatDoorPi
open Go Go.Proofs Go.RowKit
set_option maxRecDepth 100000
set_option maxHeartbeats 4000000

/-! strings.Builder, at this seat -/
abbrev lies (T : TypeId) : Prop := liesAt Tryz.prog Tryz.prog.depth T (2 / Tryz.prog.cellsOf T) 0 101 1 = true
theorem bl_size : (Tryz.prog.info? 101).map (·.size) = some 2 := by kernel_rfl
theorem bl_byte : (Tryz.prog.info? 5).map (fun i => (i.zero, i.size, i.bytes)) = some (some (.int .u8 0), 1, 1) := by kernel_rfl
theorem bl_check {T e : TypeId} (hT : lies T) {b : Nat} {p : Option Addr} {v : Value} {bs : List Value} {w : World} (h : BAt T e b (.pointer p) v bs w) (hp : p = none ∨ p = some ⟨b, 0, none⟩) :
    Calls Tryz.prog 83 #[.pointer (some ⟨b, 0, none⟩)] w fun ex w' => ex = .returned (.tuple #[]) ∧ w'.heap[b]? = some (.cells #[.pointer (some ⟨b, 0, none⟩), v] T (0, 0)) ∧ Aside b v w w' ∧ w'.heap.size = w.heap.size ∧ ∀ k, k ≠ b → w'.heap[k]? = w.heap[k]? := by
  obtain ⟨j, hj, hjs⟩ := Option.map_eq_some_iff.1 bl_size
  have hsh : w.shape? b = some (T, 2) := by simp [World.shape?, h.at_]
  have hf : w.frozen? ⟨b, 0, none⟩ = false := Lib.frozen_of_heap h.at_ 0
  rcases hp with rfl | rfl
  · have c0 : w.cell? ⟨b, 0, none⟩ = some (.pointer none) := by rw [Lib.cell_of_heap h.at_]; rfl
    go_enter Tryz.func83, Tryz.ntmps83
    go_wp2
    rw [Lib.run_to_unsafe w ⟨b, 0, none⟩ Tryz.underlying98 Tryz.underlying153 hj (by rw [hjs]; decide) hsh (Nat.zero_lt_succ 1)]
    simp only [Result.andThen]
    rw [Oper.upon_value]
    go_wp2
    rw [run_callFunc_extern Tryz.func89 (by kernel_rfl) (by kernel_rfl) (by kernel_rfl) (e := Extern.AbiNoEscape.same) (by kernel_rfl)]
    rw [Lib.run_noEscape]
    simp only [Result.andThen]
    rw [Oper.upon_value]
    go_wp2
    rw [Lib.run_from_unsafe w ⟨b, 0, none⟩ Tryz.underlying153 Tryz.underlying98 hj hsh hT]
    simp only [Result.andThen]
    rw [Oper.upon_value]
    go_wp2
    go_end0
    have hk : ∀ k, k ≠ b → (w.setCell ⟨b, 0, none⟩ (.pointer (some ⟨b, 0, none⟩))).heap[k]? = w.heap[k]? := fun k hk => Below.heap_setCell _ _ _ _ (fun e => hk (by simp [e]))
    exact ⟨rfl, by simp [World.setCell, Array.getElem?_modify, h.at_], ⟨rfl, rfl, rfl, Nat.le_refl _, by simp [World.setCell], fun k _ hne _ => hk k hne⟩, by simp [World.setCell], hk⟩
  · have c0 : w.cell? ⟨b, 0, none⟩ = some (.pointer (some ⟨b, 0, none⟩)) := by rw [Lib.cell_of_heap h.at_]; rfl
    go_enter Tryz.func83, Tryz.ntmps83
    go_wp2
    rw [Lib.run_neq_ptr_same w _ Tryz.underlying98 hj]
    go_wp2
    go_end0
    exact ⟨rfl, h.at_, ⟨rfl, rfl, rfl, Nat.le_refl _, Nat.le_refl _, fun _ _ _ _ => rfl⟩, rfl, fun _ _ => rfl⟩

theorem bl_write {T : TypeId} (hT : lies T) : WriteC Tryz.prog 78 T 5 := by
  intro b p v bs s w h hp hle
  obtain ⟨i0, hi, hz0, hz1, hz2⟩ := info_parts bl_byte
  go_enter Tryz.func78, Tryz.ntmps78
  go_wp2_with (go_at_call 83; refine (bl_check hT h hp).mono ?_)
  rintro e w1 ⟨rfl, hbk, ha1, hs1, hk1⟩
  have hown : w1.ownsRow 0 5 1 v bs.length bs := ownsRow_heap h.own (fun g hg => hk1 g (fun q => h.ne (by rw [hg, q])))
  have c0 : w1.cell? ⟨b, 0, none⟩ = some (.pointer (some ⟨b, 0, none⟩)) := by rw [Lib.cell_of_heap hbk]; rfl
  have c1 : w1.cell? ⟨b, 1, none⟩ = some v := by rw [Lib.cell_of_heap hbk]; rfl
  have hlt : b < w1.heap.size := blk_lt hbk
  go_wp2_with (at_builtin; refine wpList_apps rfl _ _ 99 9 rfl 5 i0 Tryz.underlying99 Tryz.underlying9 hi hz0 hz1 hz2 _ _ _ rfl hown s rfl hle ?_)
  intro v' w2 hown' hgrow hdr hv'
  have hb2 : w2.heap[b]? = some (.cells #[.pointer (some ⟨b, 0, none⟩), v] T (0, 0)) := by
    rw [hgrow.block b hlt (fun e => h.ne e.symm)]
    exact hbk
  have d0 : w2.cell? ⟨b, 0, none⟩ = some (.pointer (some ⟨b, 0, none⟩)) := by rw [Lib.cell_of_heap hb2]; rfl
  have d1 : w2.cell? ⟨b, 1, none⟩ = some v := by rw [Lib.cell_of_heap hb2]; rfl
  have f1 : w2.frozen? ⟨b, 1, none⟩ = false := Lib.frozen_of_heap hb2 1
  obtain ⟨ao, n', cap, rfl⟩ : ∃ ao n' cap, v' = .slice ao n' cap := by
    rcases hown'.2 with ⟨hv, _⟩ | ⟨g, cap, cur, hv, _⟩
    · exact ⟨_, _, _, hv⟩
    · exact ⟨_, _, _, hv⟩
  go_wp2
  go_ret2
  have hne' : (Value.slice ao n' cap).ownBlock ≠ some b := by
    rcases hv' with q | q
    · rw [q]; exact h.ne
    · rw [q]; intro q2; have := Option.some.inj q2; omega
  have hk2 : ∀ k, k ≠ b → (w2.setCell ⟨b, 1, none⟩ (.slice ao n' cap)).heap[k]? = w2.heap[k]? := fun k hk => Below.heap_setCell _ _ _ _ (fun e => hk (by simp [e]))
  refine ⟨rfl, _, ⟨by simp [World.setCell, Array.getElem?_modify, hb2], ?_, hne'⟩, ?_, ⟨?_, ?_, ?_, ?_, ?_, fun k hk hkb hkv => ?_⟩⟩
  · exact ownsRow_heap (by rw [List.length_append, Lib.strCells_length]; exact hown') (fun g hg => hk2 g (fun q => hne' (by rw [hg, q])))
  · rcases hv' with q | q
    · exact .inl q
    · exact .inr ⟨_, q, by omega⟩
  · exact hgrow.os.trans ha1.os
  · exact hgrow.tape.trans ha1.tape
  · exact hgrow.output.trans ha1.output
  · exact Nat.le_trans ha1.drawn hdr
  · have := hgrow.size; simp [World.setCell]; omega
  · rw [hk2 k hkb, hgrow.block k (by omega) (fun q => hkv q.symm), hk1 k hkb]

end Go.Proofs.YtedenojeljjnaaaGreatDoorPi

namespace Go.Proofs.YtedenojeljjnaaaGreatDoorPi
open Go Go.Proofs Go.RowKit
set_option maxRecDepth 100000
set_option maxHeartbeats 4000000

/-! String -/
theorem bl_mixed : Tryz.prog.follows .mixedOrders = true := by kernel_rfl
theorem bl_cells : Tryz.prog.cellsOf 5 = 1 := by kernel_rfl
theorem bl_none (W : World) (q : Option Addr) : (Builtin.unsafeString_ #[133, 3] 9 #[.pointer q, .int .i64 0]).run Tryz.prog W = .ok (.string .empty) W := Lib.run_unsafeString_none W _ _ _ q
theorem bl_string0 {T : TypeId} {b : Nat} {p : Value} {w : World} (hbk : w.heap[b]? = some (.cells #[p, .slice none 0 0] T (0, 0))) :
    Calls Tryz.prog 46 #[.pointer (some ⟨b, 0, none⟩)] w fun e w' => e = .returned (.string ⟨#[]⟩) ∧ Aside b (.slice none 0 0) w w' := by
  have hUS := bl_none
  have mixed := bl_mixed
  have c1 : w.drew.cell? ⟨b, 1, none⟩ = some (.slice none 0 0) := by
    have : w.drew.heap[b]? = some (.cells #[p, .slice none 0 0] T (0, 0)) := hbk
    rw [Lib.cell_of_heap this]; rfl
  have hSD : (Builtin.unsafeSliceData_ #[99] 133 #[.slice none 0 0]).run Tryz.prog w.drew = .ok (.pointer none) w.drew := rfl
  go_enter Tryz.func46, Tryz.ntmps46
  go_wp2
  go_region_o
  all_goals (go_wp2; go_ret; exact ⟨rfl, ⟨rfl, rfl, rfl, Nat.le_succ _, Nat.le_refl _, fun _ _ _ _ => rfl⟩⟩)
theorem bl_string1 {T : TypeId} {b g : Nat} {p : Value} {cur : Array Value} {w : World} (hbk : w.heap[b]? = some (.cells #[p, .slice (some ⟨g, 0, none⟩) 0 0] T (0, 0))) (hg : w.heap[g]? = some (.cells cur 5 (0, 0))) :
    Calls Tryz.prog 46 #[.pointer (some ⟨b, 0, none⟩)] w fun e w' => e = .returned (.string ⟨#[]⟩) ∧ Aside b (.slice (some ⟨g, 0, none⟩) 0 0) w w' := by
  have hUS := bl_none
  have mixed := bl_mixed
  have hlt : b < w.heap.size := blk_lt hbk
  have c1 : w.drew.cell? ⟨b, 1, none⟩ = some (.slice (some ⟨g, 0, none⟩) 0 0) := by
    have : w.drew.heap[b]? = some (.cells #[p, .slice (some ⟨g, 0, none⟩) 0 0] T (0, 0)) := hbk
    rw [Lib.cell_of_heap this]; rfl
  have hSD : (Builtin.unsafeSliceData_ #[99] 133 #[.slice (some ⟨g, 0, none⟩) 0 0]).run Tryz.prog w.drew = .ok (.pointer (some ⟨w.drew.heap.size, 0, none⟩)) (w.drew.alloc (.view ⟨g, 0, none⟩ 5)) :=
    Lib.run_unsafeSliceData_zero w.drew _ _ 5 Tryz.underlying133 ⟨g, 0, none⟩ 0 (5, cur.size) (by have hg' : w.drew.heap[g]? = some (.cells cur 5 (0, 0)) := hg; simp [World.shape?, hg'])
  have c2 : (w.drew.alloc (.view ⟨g, 0, none⟩ 5)).cell? ⟨b, 1, none⟩ = some (.slice (some ⟨g, 0, none⟩) 0 0) := by
    have : (w.drew.alloc (.view ⟨g, 0, none⟩ 5)).heap[b]? = _ := (Lib.alloc_old w.drew _ b hlt).trans hbk
    rw [Lib.cell_of_heap this]; rfl
  have c3 : (w.alloc (.view ⟨g, 0, none⟩ 5)).drew.cell? ⟨b, 1, none⟩ = some (.slice (some ⟨g, 0, none⟩) 0 0) := c2
  have c0 : w.cell? ⟨b, 1, none⟩ = some (.slice (some ⟨g, 0, none⟩) 0 0) := c1
  go_enter Tryz.func46, Tryz.ntmps46
  go_wp2
  go_region_o
  all_goals (go_wp2; go_ret; exact ⟨rfl, ⟨rfl, rfl, rfl, Nat.le_succ _, by simp [World.drew], fun k hk _ _ => Lib.alloc_old w _ k hk⟩⟩)
theorem bl_string2 {T : TypeId} {b g cap : Nat} {p : Value} {w : World} (hc0 : cap ≠ 0) (hbk : w.heap[b]? = some (.cells #[p, .slice (some ⟨g, 0, none⟩) 0 cap] T (0, 0))) :
    Calls Tryz.prog 46 #[.pointer (some ⟨b, 0, none⟩)] w fun e w' => e = .returned (.string ⟨#[]⟩) ∧ Aside b (.slice (some ⟨g, 0, none⟩) 0 cap) w w' := by
  have hUS := bl_none
  have mixed := bl_mixed
  have c1 : w.drew.cell? ⟨b, 1, none⟩ = some (.slice (some ⟨g, 0, none⟩) 0 cap) := by
    have : w.drew.heap[b]? = some (.cells #[p, .slice (some ⟨g, 0, none⟩) 0 cap] T (0, 0)) := hbk
    rw [Lib.cell_of_heap this]; rfl
  have hSD : (Builtin.unsafeSliceData_ #[99] 133 #[.slice (some ⟨g, 0, none⟩) 0 cap]).run Tryz.prog w.drew = .ok (.pointer (some ⟨g, 0, none⟩)) w.drew :=
    Lib.run_unsafeSliceData_row _ _ _ _ _ _ hc0
  clear hc0
  go_enter Tryz.func46, Tryz.ntmps46
  go_wp2
  go_region_o
  all_goals (go_wp2; go_ret; exact ⟨rfl, ⟨rfl, rfl, rfl, Nat.le_succ _, Nat.le_refl _, fun _ _ _ _ => rfl⟩⟩)
theorem aside_freeze {b g n cap : Nat} {w : World} (h0 : n ≠ 0) : Aside b (.slice (some ⟨g, 0, none⟩) n cap) w (w.drew.freeze ⟨g, 0, none⟩ n) := by
  unfold World.freeze
  rw [if_neg h0]
  refine ⟨rfl, rfl, rfl, Nat.le_succ _, ?_, fun k _ _ hne => ?_⟩
  · show w.heap.size ≤ (w.heap.modify g _).size
    rw [Array.size_modify]; exact Nat.le_refl _
  · show (w.heap.modify g _)[k]? = _
    rw [Array.getElem?_modify, if_neg (fun q => hne (by rw [← q]; rfl))]
theorem bl_string3 {T : TypeId} {b : Nat} {p : Value} {v : Value} {l : List UInt8} {w : World} (h : BAt T 5 b p v (Lib.byteCells l) w) (h0 : l ≠ []) :
    Calls Tryz.prog 46 #[.pointer (some ⟨b, 0, none⟩)] w fun e w' => e = .returned (.string ⟨l.toArray⟩) ∧ Aside b v w w' := by
  have hl0 : l.length ≠ 0 := by simpa using h0
  have hown := h.own
  have hbk := h.at_
  rw [Lib.byteCells_length] at hown
  obtain ⟨g, cap, cur, rfl, hg, hnc, hcm, hcs⟩ : ∃ g cap cur, v = .slice (some ⟨g, 0, none⟩) l.length cap ∧ w.heap[g]? = some (.cells cur 5 (0, 0)) ∧ l.length ≤ cap ∧ cap ≤ maxLen ∧ cur.size = cap * 1 := by
    rcases hown.2 with ⟨_, hz⟩ | ⟨g, cap, cur, hv, _, h1, h2, h3, h4, _⟩
    · exact absurd hz hl0
    · exact ⟨g, cap, cur, hv, h1, h2, h3, h4⟩
  have c1 : w.drew.cell? ⟨b, 1, none⟩ = some (.slice (some ⟨g, 0, none⟩) l.length cap) := by
    have : w.drew.heap[b]? = some (.cells #[p, .slice (some ⟨g, 0, none⟩) l.length cap] T (0, 0)) := hbk
    rw [Lib.cell_of_heap this]; rfl
  have hSD : (Builtin.unsafeSliceData_ #[99] 133 #[.slice (some ⟨g, 0, none⟩) l.length cap]).run Tryz.prog w.drew = .ok (.pointer (some ⟨g, 0, none⟩)) w.drew :=
    Lib.run_unsafeSliceData_row _ _ _ _ _ _ (by omega)
  have hUS : (Builtin.unsafeString_ #[133, 3] 9 #[.pointer (some ⟨g, 0, none⟩), .int .i64 l.length]).run Tryz.prog w.drew = .ok (.string ⟨l.toArray⟩) (w.drew.freeze ⟨g, 0, none⟩ l.length) := by
    refine Lib.run_unsafeString_row w.drew 133 3 9 5 Tryz.underlying133 bl_cells g cur.size (by have hg' : w.drew.heap[g]? = some (.cells cur 5 (0, 0)) := hg; simp [World.shape?, hg']) l h0 (by omega) (by unfold maxLen at hcm; omega) ?_
    intro j x hx
    have := hown.cells (g := g) rfl j (.int .u8 x.toNat) (by simp [Lib.byteCells, hx])
    exact this
  have mixed := bl_mixed
  go_enter Tryz.func46, Tryz.ntmps46
  go_wp2
  go_region_o
  all_goals (go_wp2; go_ret; exact ⟨rfl, aside_freeze hl0⟩)
theorem bl_string {T : TypeId} : StringC Tryz.prog 46 T 5 := by
  intro b p v l w h
  cases l with
  | cons x r => exact bl_string3 h (by simp)
  | nil =>
    rcases h.own.2 with ⟨hv, _⟩ | ⟨g, cap, cur, hv, _, hg, _⟩
    · subst hv; exact bl_string0 h.at_
    · have hv : v = .slice (some ⟨g, 0, none⟩) 0 cap := hv
      subst hv
      by_cases hc0 : cap = 0
      · subst hc0; exact bl_string1 h.at_ hg
      · exact bl_string2 hc0 h.at_
end Go.Proofs.YtedenojeljjnaaaGreatDoorPi
