import Derived.Test.YtedenojeljjnaaaGreatDoorPiC
import Derived.Shelf.SortG.Plain
import Derived.Shelf.SortG.SortNone
import Derived.Shelf.SlicesG.CompactI
import Derived.Test.YtedenojeljjnaaaGreatDoorInt
import Derived.Ground.SlgnProg
set_option linter.unusedVariables false
namespace Go.Proofs.YtedenojeljjnaaaGreatDoorPi
open Go Go.Sort Go.Lib

theorem heapPut (w : World) (g : Nat) (f : Array Value → Array Value) (i : Nat) : (mapBlock w g f).heap[i]? = if g = i then (w.heap[i]?).map (onCells f) else w.heap[i]? := by
  unfold mapBlock
  simp only [Array.getElem?_modify]
theorem sizePut (w : World) (g : Nat) (f : Array Value → Array Value) : (mapBlock w g f).heap.size = w.heap.size := by unfold mapBlock; simp
/-- The world with a row's cells anew. -/
abbrev putI (w : World) (n g : Nat) (d : Array Int) (os : Array Obj) : World := grow (putRow (Value.int .i64) (Sort.ahead w n) g 0 d) os
theorem heap_putI (w : World) (n g : Nat) (d : Array Int) (os : Array Obj) (i : Nat) (hi : i < w.heap.size) : (putI w n g d os).heap[i]? = if g = i then (w.heap[i]?).map (onCells (putCells (Value.int .i64) 0 d)) else w.heap[i]? := by
  have hs : (mapBlock (Sort.ahead w n) g (putCells (Value.int .i64) 0 d)).heap.size = w.heap.size := by rw [sizePut]; rfl
  show ((mapBlock (Sort.ahead w n) g _).heap ++ os)[i]? = _
  rw [Array.getElem?_append_left (by rw [hs]; exact hi), heapPut]
  rfl
theorem size_putI (w : World) (n g : Nat) (d : Array Int) (os : Array Obj) : w.heap.size ≤ (putI w n g d os).heap.size := by
  have hs : (mapBlock (Sort.ahead w n) g (putCells (Value.int .i64) 0 d)).heap.size = w.heap.size := by rw [sizePut]; rfl
  show _ ≤ ((mapBlock (Sort.ahead w n) g _).heap ++ os).size
  rw [Array.size_append, hs]; omega
theorem cells_putI (d : Array Int) (c : Array Value) (h : d.size ≤ c.size) : ((putCells (Value.int .i64) 0 d c).toList).take d.size = d.toList.map (.int .i64) := by
  apply List.ext_getElem?
  intro i
  rw [List.getElem?_take]
  by_cases hi : i < d.size
  · rw [if_pos hi]
    have hc : i < c.size := by omega
    simp [putCells, hi, hc]
  · rw [if_neg hi, List.getElem?_eq_none (by simpa using Nat.le_of_not_lt hi)]
theorem reps_ints {E : Env} : ∀ (xs : List Int) (l : List Value), reps E (.int .i64) xs l → l = xs.map (.int .i64)
  | [], l, h => h
  | _ :: xs, l, ⟨c1, c2, e, r1, r2⟩ => by rw [e, show c1 = _ from r1, reps_ints xs c2 r2]; rfl
theorem ints_reps {E : Env} : ∀ (xs : List Int), reps E (.int .i64) xs (xs.map (.int .i64))
  | [] => rfl
  | _ :: xs => ⟨[_], xs.map (.int .i64), rfl, rfl, ints_reps xs⟩
/-- The row's cells, in the words of the shelf. -/
theorem holds_row {w : World} {e : TypeId} {g : Nat} {cap : Nat} {cur : Array Value} {xs : List Int} (hh : w.heap[g]? = some (.cells cur e (0, 0))) (hnc : xs.length ≤ cap) (hcs : cur.size = cap * 1) (htk : cur.toList.take (xs.length * 1) = xs.map (.int .i64)) : Holds (Value.int .i64) w g 0 xs.toArray := by
  intro j hj
  have hj' : j < xs.length := by simpa using hj
  have hjc : j < cur.size := by rw [hcs]; omega
  refine ⟨?_, by simp [World.frozen?, hh]⟩
  have h2 : (cur.toList.take (xs.length * 1))[j]? = (xs.map (Value.int .i64))[j]? := by rw [htk]
  rw [List.getElem?_take, if_pos (by omega), List.getElem?_map, List.getElem?_eq_getElem hj'] at h2
  have h3 : cur[j]? = some (Value.int .i64 xs[j]) := by simpa using h2
  unfold World.cell?
  simp only [hh, Nat.zero_add]
  rw [h3, getElem!_pos xs.toArray j hj]
  simp

def sortF (_n : Nat) (xs : List Int) (_y : Unit) : Option (List Int) := if xs.length < 4611686018427387904 then some (xs.mergeSort fun x y => decide (x ≤ y)) else none
def sortSp (e : TypeId) : SpI := ⟨e, .int .i64, .unit, sortF⟩
theorem sort64_core {P : Program} {C : Ctx} {ρ : Go.Shelf.Ren} {e : TypeId} (L : SlLaysN.n53 P ρ) {m : Mem} {w : World} {v : Value} {xs : List Int} (hlen : xs.length < 4611686018427387904) (hi : Inv m w) (ho : w.ownsRow 0 e 1 v xs.length (xs.map (.int .i64))) (hm : ∀ g j, v.ownBlock = some g → m g j = none) :
    Calls P (ρ.f 53) #[v] w fun ex w' => ∃ m' : Mem, ex = .returned (.tuple #[]) ∧ ChgX (fun b => v.ownBlock = some b) C m w m' w' ∧ Inv m' w' ∧ w'.ownsRow 0 e 1 v (xs.mergeSort fun x y => decide (x ≤ y)).length ((xs.mergeSort fun x y => decide (x ≤ y)).map (.int .i64)) ∧ ∀ g j, v.ownBlock = some g → m' g j = none := by
  have hsz : (xs.mergeSort fun x y => decide (x ≤ y)).length = xs.length := List.length_mergeSort ..
  rcases ho.2 with ⟨rfl, hn⟩ | ⟨b, cap, cur, rfl, _, hh, hnc, hcm, hcs, htk⟩
  · have : xs = [] := List.length_eq_zero_iff.1 hn
    subst this
    refine (AnyG.slices_Sort_int_none L none 0 w).mono ?_
    rintro r w' ⟨rfl, rfl⟩
    have hs0 : ([] : List Int).mergeSort (fun x y => decide (x ≤ y)) = [] := List.length_eq_zero_iff.1 hsz
    rw [hs0]
    exact ⟨m, rfl, .refl _ _, hi, World.ownsRow_nil w' 0 e 1, fun g j q => by cases q⟩
  · have hb : b < w.heap.size := blk_lt hh
    refine (AnyG.slices_Sort_int L b 0 cap xs w (holds_row hh hnc hcs htk) hb hlen).mono ?_
    rintro r w' ⟨rfl, nn, os, rfl⟩
    generalize hys : (xs.mergeSort fun x y => decide (x ≤ y)) = ys at hsz ⊢
    have hcur : ys.toArray.size ≤ cur.size := by rw [hcs]; simp; omega
    have hblk : (putI w nn b ys.toArray os).heap[b]? = some (.cells (putCells (Value.int .i64) 0 ys.toArray cur) e (0, 0)) := by
      rw [heap_putI w nn b _ os b hb, if_pos rfl, hh]; rfl
    have inv_ : Inv m (putI w nn b ys.toArray os) := fun b' j u hu => by
      have h1 := hi b' j u hu
      have hlt := cell_lt h1
      have hne : b ≠ b' := fun q => by subst q; rw [hm b j rfl] at hu; cases hu
      unfold World.cell? at h1 ⊢
      rw [heap_putI w nn b _ os b' hlt, if_neg hne]; exact h1
    refine ⟨m, rfl, ⟨rfl, rfl, rfl, fun _ => Nat.le_add_right _ _, size_putI _ _ _ _ _, fun i hi' hx => ?_, fun _ _ _ => rfl, fun _ _ _ q => q⟩, inv_, ⟨by simp, .inr ⟨b, cap, _, by rw [hsz], Nat.zero_le _, hblk, by rw [hsz]; exact hnc, hcm, by simpa [putCells] using hcs, ?_⟩⟩, hm⟩
    · rw [heap_putI w nn b _ os i hi', if_neg (fun q => hx (by subst q; rfl))]
    · have h3 := cells_putI ys.toArray cur hcur
      have e1 : ys.toArray.size = ys.length * 1 := by simp
      rw [e1] at h3
      exact h3
/-- slices.Sort of int64s, in place. -/
theorem sort64_sound {P : Program} {C : Ctx} {ρ : Go.Shelf.Ren} {e : TypeId} (L : SlLaysN.n53 P ρ) (hent : ∀ (args : Array Value) (w : World), (callFunc (ρ.f 53) args).run P w = .ok (.enter (ρ.f 53) args) w) : SoundX P C (ρ.f 53) (.i (sortSp e)) := by
  refine ⟨hent, fun n (xs : List Int) (y : Unit) (ys : List Int) hF m β τ w v l vs hi hΓ hv ho hrp hm => ?_⟩
  obtain rfl : vs = [] := hv
  have hF : (if xs.length < 4611686018427387904 then some (xs.mergeSort fun x y => decide (x ≤ y)) else none) = some ys := hF
  split at hF
  · rename_i hlen
    obtain rfl := Option.some.inj hF
    obtain rfl := reps_ints xs l hrp
    refine (sort64_core (C := C) L hlen hi ho hm).mono ?_
    rintro r w' ⟨m', h1, h2, h3, h4, h5⟩
    exact ⟨m', _, h1, h2, h3, h4, ints_reps _, h5⟩
  · cases hF

def compF (_n : Nat) (c : List Int × Unit) (_y : Unit × Unit) : Option ((List Int × Unit) × (List Int × Unit)) := bif decide (c.1.length ≤ 9223372036854775807) then some (c, (Lib.compact c.1, ())) else none
def compSp (e : TypeId) : SpM := ⟨[some e], .pair (.list (.int .i64)) .unit, .pair (.sl 0 (.int .i64)) .unit, .pair (.list (.int .i64)) .unit, compF, true⟩
/-- slices.Compact of int64s: the row that it is given is its own from then on. -/
theorem comp64_sound {P : Program} {C : Ctx} {ρ : Go.Shelf.Ren} {e : TypeId} (L : SlLaysN.n43 P ρ) (hent : ∀ (args : Array Value) (w : World), (callFunc (ρ.f 43) args).run P w = .ok (.enter (ρ.f 43) args) w) : SoundX P C (ρ.f 43) (.m [compSp e]) := by
  refine sound_one ⟨hent, fun n (c : List Int × Unit) (y : Unit × Unit) c' r hF E w vs hf htop hlt hG hv => ?_⟩
  obtain ⟨xs, cu⟩ := c
  rcases bif_some hF with ⟨hle, hF⟩ | ⟨_, hF⟩
  rotate_left
  · cases hF
  cases hF
  have hle' : xs.length ≤ 9223372036854775807 := by simpa using hle
  obtain ⟨v, l, hτ, ho, hr, hβ, hm⟩ := hf.arrs 0 e (.int .i64) xs rfl
  have hl := reps_ints xs l hr
  obtain ⟨v1, vs1, rfl, hv1, hvs⟩ := hv
  obtain rfl : vs1 = [] := hvs
  obtain ⟨A, n', cap0, rfl, hτ2⟩ := vrep_sl hv1
  obtain rfl : v = .slice A n' cap0 := Option.some.inj (hτ.symm.trans hτ2)
  have hnm : ∀ i b j u, E.β i = some b → E.m b j = some u → False := fun i b j u hb hu => by
    match i, hb with
    | 0, hb => rw [hm b j (hβ.symm.trans hb)] at hu; cases hu
    | i + 1, hb => rw [(htop (i + 1) (by simp [compSp])).1] at hb; cases hb
  have rs_eq : ∀ (E' : Env) (ys : List Int) (v : Value), VRep E' (.list (.int .i64)) ys v → SlotRep E' (retSlot (.pair (.list (.int .i64)) .unit) (ys, ())) v := fun E' ys v h => h
  have none_ : ∀ (m' : Mem) (w' : World), Inv m' w' → FR (fun _ => True) ⟨m', fun _ => none, fun _ => none⟩ ⟨[], []⟩ #[] w' := fun m' w' hi => ⟨rfl, fun i sl _ hs => by simp at hs, fun i tv hi => by simp at hi, fun i e t xs hi => by simp at hi, fun i j b hb => (by cases hb), hi⟩
  rcases ho.2 with ⟨hv0, hn⟩ | ⟨b, cap, cur, hv0, _, hh, hnc, hcm, hcs, htk⟩
  · have : xs = [] := List.length_eq_zero_iff.1 hn
    subst this
    simp only [Value.slice.injEq] at hv0
    obtain ⟨rfl, rfl, rfl⟩ := hv0
    refine (AnyG.slices_Compact_int_empty L none 0 w).mono ?_
    rintro ex w' ⟨rfl, rfl⟩
    refine ⟨_, ⟨E.m, fun _ => none, fun _ => none⟩, rfl, .refl _ _, none_ _ _ hf.inv, fun i b hb => (by cases hb), fun i hi => ?_, ?_⟩
    · match i, hi with
      | 0, hi => cases hi
      | i + 1, hi => simp [compSp] at hi
    · have hc0 : Lib.compact ([] : List Int) = [] := rfl
      exact rs_eq _ _ _ (by rw [hc0]; exact ⟨[_], ⟨none, 0, rfl, fun _ => rfl, Nat.le_refl _, fun i x hx => by simp at hx⟩, rfl⟩)
  · simp only [Value.slice.injEq] at hv0
    obtain ⟨rfl, rfl, rfl⟩ := hv0
    have hb : b < w.heap.size := blk_lt hh
    rw [hl] at htk
    have hcs : cur.size = cap0 * 1 := hcs
    have htk : cur.toList.take (xs.length * 1) = xs.map (Value.int .i64) := htk
    refine (AnyG.slices_Compact_int L b 0 cap0 xs w (holds_row hh hnc hcs htk) hle' hnc).mono ?_
    rintro ex w' ⟨rfl, q, rfl⟩
    have hcl : (Lib.compact xs).length ≤ xs.length := by
      unfold Lib.compact Lib.compactUpTo
      rw [List.length_map]
      exact Nat.le_trans (List.length_filter_le _ _) (by simp)
    generalize hys : Lib.compact xs = ys at hcl ⊢
    generalize hd : (ys ++ List.replicate (xs.length - ys.length) 0).toArray = d
    have hds : d.size = xs.length := by rw [← hd]; simp; omega
    have e0 : putRow (Value.int .i64) (Sort.ahead w q) b 0 d = putI w q b d #[] := by unfold putI; rw [grow_empty]
    rw [e0]
    have hcur : d.size ≤ cur.size := by rw [hds, hcs]; omega
    have hblk : (putI w q b d #[]).heap[b]? = some (.cells (putCells (Value.int .i64) 0 d cur) e (0, 0)) := by
      rw [heap_putI w q b _ #[] b hb, if_pos rfl, hh]; rfl
    have hX : ∀ k, k < w.heap.size → (¬ ∃ i, E.β i = some k) → (putI w q b d #[]).heap[k]? = w.heap[k]? := fun k hk hx => by
      rw [heap_putI w q b _ #[] k hk, if_neg (fun hq => hx ⟨0, by rw [hβ, ← hq]; rfl⟩)]
    have hchg : ChgX (fun b => ∃ i, E.β i = some b) C E.m w E.m (putI w q b d #[]) := ⟨rfl, rfl, rfl, fun _ => Nat.le_add_right _ _, size_putI _ _ _ _ _, hX, fun _ _ _ => rfl, fun _ _ _ q => q⟩
    have hinv : Inv E.m (putI w q b d #[]) := chg_inv hchg (fun b j u hu ⟨i, hi⟩ => hnm i b j u hi hu) hf.inv
    have hown : (putI w q b d #[]).ownsRow 0 e (Ty.int .i64).size (.slice (some ⟨b, 0, none⟩) ys.length cap0) ys.length (ys.map (.int .i64)) := by
      refine ⟨by simp [Ty.size], .inr ⟨b, cap0, _, rfl, Nat.zero_le _, hblk, by omega, hcm, (by show (putCells _ 0 d cur).size = cap0 * 1; simpa [putCells] using hcs), ?_⟩⟩
      have h3 := cells_putI d cur hcur
      rw [hds] at h3
      show List.take (ys.length * 1) _ = _
      rw [Nat.mul_one]
      have h4 : List.take ys.length ((putCells (Value.int .i64) 0 d cur).toList) = List.take ys.length (List.take xs.length ((putCells (Value.int .i64) 0 d cur).toList)) := by
        rw [List.take_take]; congr 1; omega
      rw [h4, h3, ← hd, ← List.map_take]
      simp
    obtain ⟨m2, hle2, hoth, hi2, hv2⟩ := own_list (β := fun _ => none) (τ := fun _ => none) hinv hown (ints_reps ys) (fun g hg j => hm g j hg)
    refine ⟨_, ⟨m2, fun _ => none, fun _ => none⟩, rfl, ⟨hchg.os, hchg.tape, hchg.output, hchg.drawn, hchg.size, hchg.heap, fun k hk hx => hoth k (fun hq => hx ⟨0, hβ.trans hq⟩), hle2⟩, none_ _ _ hi2, fun i b hb => (by cases hb), fun i hi => ?_, rs_eq _ _ _ hv2⟩
    match i, hi with
    | 0, hi => cases hi
    | i + 1, hi => simp [compSp] at hi
end Go.Proofs.YtedenojeljjnaaaGreatDoorPi

set_option maxRecDepth 100000
namespace Go.Proofs
open Go.Shelf
def Tryz.sort64_ren : Go.Shelf.Ren := ⟨fun | 53 => 20 | 64 => 34 | 63 => 33 | 78 => 59 | 79 => 60 | 70 => 50 | 71 => 51 | 72 => 52 | 73 => 53 | 74 => 54 | 75 => 55 | 59 => 56 | 76 => 57 | 77 => 58 | 88 => 70 | 89 => 71 | 90 => 72 | 91 => 73 | 92 => 74 | 68 => 75 | 96 => 80 | n => n, fun | 22 => 35 | 23 => 2 | 3 => 3 | 51 => 86 | 0 => 0 | 67 => 120 | 69 => 122 | 4 => 4 | 61 => 113 | 60 => 112 | 44 => 68 | 5 => 5 | 9 => 9 | 75 => 134 | 79 => 129 | 83 => 147 | 84 => 148 | n => n, fun | n => n⟩
theorem Tryz.sort64 : Go.Proofs.SlLaysN.n53 Tryz.prog Tryz.sort64_ren := {
  mixed := by kernel_rfl
  f53 := ⟨Tryz.f20.name, by decide, Tryz.func20.trans (congrArg some (by kernel_rfl))⟩
  f59 := ⟨Tryz.f56.name, by decide, Tryz.func56.trans (congrArg some (by kernel_rfl))⟩
  f63 := ⟨Tryz.f33.name, by decide, Tryz.func33.trans (congrArg some (by kernel_rfl))⟩
  f64 := Tryz.func34.trans (congrArg some (by kernel_rfl))
  f68 := ⟨Tryz.f75.name, by decide, Tryz.func75.trans (congrArg some (by kernel_rfl))⟩
  f70 := ⟨Tryz.f50.name, by decide, Tryz.func50.trans (congrArg some (by kernel_rfl))⟩
  f71 := ⟨Tryz.f51.name, by decide, Tryz.func51.trans (congrArg some (by kernel_rfl))⟩
  f72 := ⟨Tryz.f52.name, by decide, Tryz.func52.trans (congrArg some (by kernel_rfl))⟩
  f73 := ⟨Tryz.f53.name, by decide, Tryz.func53.trans (congrArg some (by kernel_rfl))⟩
  f74 := ⟨Tryz.f54.name, by decide, Tryz.func54.trans (congrArg some (by kernel_rfl))⟩
  f75 := ⟨Tryz.f55.name, by decide, Tryz.func55.trans (congrArg some (by kernel_rfl))⟩
  f76 := ⟨Tryz.f57.name, by decide, Tryz.func57.trans (congrArg some (by kernel_rfl))⟩
  f77 := ⟨Tryz.f58.name, by decide, Tryz.func58.trans (congrArg some (by kernel_rfl))⟩
  f78 := Tryz.func59.trans (congrArg some (by kernel_rfl))
  f79 := Tryz.func60.trans (congrArg some (by kernel_rfl))
  f88 := ⟨Tryz.f70.name, by decide, Tryz.func70.trans (congrArg some (by kernel_rfl))⟩
  f89 := Tryz.func71.trans (congrArg some (by kernel_rfl))
  f90 := Tryz.func72.trans (congrArg some (by kernel_rfl))
  f91 := ⟨Tryz.f73.name, by decide, Tryz.func73.trans (congrArg some (by kernel_rfl))⟩
  f92 := ⟨Tryz.f74.name, by decide, Tryz.func74.trans (congrArg some (by kernel_rfl))⟩
  f96 := ⟨Tryz.f80.name, by decide, Tryz.func80.trans (congrArg some (by kernel_rfl))⟩
  t0 := Tryz.underlying0
  a0 := Tryz.isAgg0
  z0 := Tryz.sizeOf0
  v0 := Tryz.zeroValue0
  t3 := Tryz.underlying3
  a3 := Tryz.isAgg3
  z3 := Tryz.sizeOf3
  v3 := Tryz.zeroValue3
  t4 := Tryz.underlying4
  a4 := Tryz.isAgg4
  z4 := Tryz.sizeOf4
  v4 := Tryz.zeroValue4
  t5 := Tryz.underlying5
  a5 := Tryz.isAgg5
  z5 := Tryz.sizeOf5
  v5 := Tryz.zeroValue5
  t9 := Tryz.underlying9
  a9 := Tryz.isAgg9
  z9 := Tryz.sizeOf9
  v9 := Tryz.zeroValue9
  t22 := Tryz.underlying35
  a22 := Tryz.isAgg35
  z22 := Tryz.sizeOf35
  v22 := Tryz.zeroValue35
  t23 := Tryz.underlying2
  a23 := Tryz.isAgg2
  z23 := Tryz.sizeOf2
  v23 := Tryz.zeroValue2
  t44 := Tryz.underlying68
  a44 := Tryz.isAgg68
  z44 := Tryz.sizeOf68
  v44 := Tryz.zeroValue68
  t51 := Tryz.underlying86
  a51 := Tryz.isAgg86
  z51 := Tryz.sizeOf86
  v51 := Tryz.zeroValue86
  t60 := Tryz.underlying112
  a60 := Tryz.isAgg112
  z60 := Tryz.sizeOf112
  v60 := Tryz.zeroValue112
  t61 := Tryz.underlying113
  a61 := Tryz.isAgg113
  z61 := Tryz.sizeOf113
  v61 := Tryz.zeroValue113
  t67 := Tryz.underlying120
  a67 := Tryz.isAgg120
  z67 := Tryz.sizeOf120
  v67 := Tryz.zeroValue120
  t69 := Tryz.underlying122
  a69 := Tryz.isAgg122
  z69 := Tryz.sizeOf122
  v69 := Tryz.zeroValue122
  t75 := Tryz.underlying134
  a75 := Tryz.isAgg134
  z75 := Tryz.sizeOf134
  v75 := Tryz.zeroValue134
  t79 := Tryz.underlying129
  a79 := Tryz.isAgg129
  z79 := Tryz.sizeOf129
  v79 := Tryz.zeroValue129
  t83 := Tryz.underlying147
  a83 := Tryz.isAgg147
  z83 := Tryz.sizeOf147
  v83 := Tryz.zeroValue147
  t84 := Tryz.underlying148
  a84 := Tryz.isAgg148
  z84 := Tryz.sizeOf148
  v84 := Tryz.zeroValue148 }

def Tryz.comp64_ren : Go.Shelf.Ren := ⟨fun | 43 => 21 | n => n, fun | 22 => 35 | 23 => 2 | 3 => 3 | 4 => 4 | 0 => 0 | n => n, fun | n => n⟩
theorem Tryz.comp64 : Go.Proofs.SlLaysN.n43 Tryz.prog Tryz.comp64_ren := {
  mixed := by kernel_rfl
  f43 := ⟨Tryz.f21.name, by decide, Tryz.func21.trans (congrArg some (by kernel_rfl))⟩
  t0 := Tryz.underlying0
  a0 := Tryz.isAgg0
  z0 := Tryz.sizeOf0
  v0 := Tryz.zeroValue0
  t3 := Tryz.underlying3
  a3 := Tryz.isAgg3
  z3 := Tryz.sizeOf3
  v3 := Tryz.zeroValue3
  t4 := Tryz.underlying4
  a4 := Tryz.isAgg4
  z4 := Tryz.sizeOf4
  v4 := Tryz.zeroValue4
  t22 := Tryz.underlying35
  a22 := Tryz.isAgg35
  z22 := Tryz.sizeOf35
  v22 := Tryz.zeroValue35
  t23 := Tryz.underlying2
  a23 := Tryz.isAgg2
  z23 := Tryz.sizeOf2
  v23 := Tryz.zeroValue2
  i23 := by kernel_rfl }

end Go.Proofs
namespace Go.Proofs.YtedenojeljjnaaaGreatDoorPi
open Go Go.Proofs
def sort64S : SpI := sortSp 2
theorem sort64_okX : SoundX Tryz.prog CX 20 (.i sort64S) := sort64_sound Tryz.sort64 (enter_of Tryz.func20 (by kernel_rfl) rfl)
def comp64S : List SpM := [compSp 2]
theorem comp64_okX : SoundX Tryz.prog CX 21 (.m comp64S) := comp64_sound Tryz.comp64 (enter_of Tryz.func21 (by kernel_rfl) rfl)
end Go.Proofs.YtedenojeljjnaaaGreatDoorPi
