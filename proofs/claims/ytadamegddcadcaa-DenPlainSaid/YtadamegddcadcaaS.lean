import Derived.Shelf.SlSortCmp.WholeK
import Derived.Shelf.SlSortCmp.NoneTotal
import Derived.Test.YtadamegddcadcaaWAllA
namespace Go.Proofs.YtadamegddcadcaaV
open Go.RowKit Go.Proofs.YtadamegddcadcaaW.PrintWords Go.Sort
theorem heap_mapBlock (w : World) (g : Nat) (f : Array Value → Array Value) (i : Nat) : (mapBlock w g f).heap[i]? = if g = i then (w.heap[i]?).map (onCells f) else w.heap[i]? := by
  unfold mapBlock
  simp only [Array.getElem?_modify]
theorem heap_sortWorldK {α : Type} [Inhabited α] (enc : α → List Value) (k : Nat) (w : World) (g n : Nat) (d : Array α) (os : Array Obj) (i : Nat) (hi : i < w.heap.size) :
    (Go.Proofs.sortWorldK enc k w g 0 n d os).heap[i]? = if g = i then (w.heap[i]?).map (onCells (putCells id 0 (flatK enc k d))) else w.heap[i]? := by
  have hs : (mapBlock (Sort.ahead w n) g (putCells id 0 (flatK enc k d))).heap.size = w.heap.size := by
    unfold mapBlock; simp [Sort.ahead]
  unfold Go.Proofs.sortWorldK grow putRowK putRow
  show ((mapBlock (Sort.ahead w n) g _).heap ++ os)[i]? = _
  rw [Array.getElem?_append_left (by rw [hs]; exact hi), heap_mapBlock]
  rfl
theorem size_sortWorldK {α : Type} [Inhabited α] (enc : α → List Value) (k : Nat) (w : World) (g n : Nat) (d : Array α) (os : Array Obj) :
    w.heap.size ≤ (Go.Proofs.sortWorldK enc k w g 0 n d os).heap.size := by
  have hs : (mapBlock (Sort.ahead w n) g (putCells id 0 (flatK enc k d))).heap.size = w.heap.size := by
    unfold mapBlock; simp [Sort.ahead]
  unfold Go.Proofs.sortWorldK grow putRowK putRow
  show _ ≤ ((mapBlock (Sort.ahead w n) g _).heap ++ os).size
  rw [Array.size_append, hs]; omega
theorem putCells_take (c : Array Value) (F : Array Value) (h : F.size ≤ c.size) : ((putCells id 0 F c).toList).take F.size = F.toList := by
  apply List.ext_getElem?
  intro i
  rw [List.getElem?_take]
  by_cases hi : i < F.size
  · rw [if_pos hi]
    have hc : i < c.size := by omega
    simp [putCells, hi, hc]
  · rw [if_neg hi]
    simp; omega
section
variable {P : Program} {α : Type} [Inhabited α]
theorem sortfunc_row {f : FuncId} {fv : Value} {d : Kd α} {e : Nat} (enc : α → List Value) (hM : ∀ {w : World} {base : Nat} {ok : Nat → Prop} {x : α} {cs : List Value}, d.M w base ok x cs ↔ cs = enc x) (hk : ∀ x, (enc x).length = d.sz) (srt : Array α → Array α) (hs : ∀ a, (srt a).size = a.size)
    (hcall : ∀ blk cap (a : Array α) (w : World), HoldsK enc d.sz w blk 0 a → blk < w.heap.size → a.size < 4611686018427387904 → Calls P f #[.slice (some ⟨blk, 0, none⟩) a.size cap, fv] w fun r w' => r = .returned (.tuple #[]) ∧ ∃ n os, w' = Go.Proofs.sortWorldK enc d.sz w blk 0 n (srt a) os)
    (hnone : ∀ p cap (w : World), Calls P f #[.slice p 0 cap, fv] w fun r w' => r = .returned (.tuple #[]) ∧ w' = w)
    {w0 w : World} {P0 : Nat → Prop} {u : Value} {l : List α} (hB : Below w0.heap.size w0 w) (ho : Kd.R d e w w0.heap.size P0 u l) (hl : l.length < 4611686018427387904) :
    Calls P f #[u, fv] w fun r w' => r = .returned (.tuple #[]) ∧ Kd.R d e w' w0.heap.size (fun k_ => (P0 k_ ∨ w.heap.size ≤ k_)) u (srt l.toArray).toList ∧ Below w0.heap.size w0 w' ∧ Kept w w' (fun k_ => P0 k_) := by
  obtain ⟨hok, inner, ⟨hlen, hcase⟩, hreps⟩ := ho
  rcases hcase with ⟨rfl, hn⟩ | ⟨g, cap, cur, rfl, hg, hh, hnc, hcm, hcs, htk⟩
  · have hl0 : l = [] := List.length_eq_zero_iff.1 hn
    subst hl0
    have hs0 : (srt ([] : List α).toArray).toList = [] := List.length_eq_zero_iff.1 (by simpa using hs #[])
    refine (hnone none 0 w).mono ?_
    rintro r w' ⟨rfl, rfl⟩
    refine ⟨rfl, ?_, hB, Kept.refl _ _⟩
    rw [hs0]
    exact ⟨fun k hk => by simp [Value.ownBlock] at hk, OwnRow.none_ _ _ _ _ _⟩
  · have hgs : g < w.heap.size := blk_lt hh
    have hP : P0 g := hok g (by simp [Value.ownBlock])
    have hfl : (flatK enc d.sz l.toArray).size = l.length * d.sz := by simp
    have hin : inner = (flatK enc d.sz l.toArray).toList := by
      apply List.ext_getElem?
      intro i
      by_cases hi : i < l.length * d.sz
      · have hsz : 0 < d.sz := by rcases Nat.eq_zero_or_pos d.sz with h | h; · rw [h] at hi; simp at hi
                                  · exact h
        have hq : i / d.sz < l.length := Nat.div_lt_of_lt_mul (by rw [Nat.mul_comm]; exact hi)
        have hr := (hM.1 (hreps.2 (i / d.sz) l[i / d.sz] (List.getElem?_eq_getElem hq)))
        have hmod : i % d.sz < d.sz := Nat.mod_lt _ hsz
        have h1 : inner[i]? = ((inner.drop (i / d.sz * d.sz)).take d.sz)[i % d.sz]? := by
          rw [List.getElem?_take, if_pos hmod, List.getElem?_drop, Nat.mul_comm, Nat.div_add_mod]
        rw [h1, hr]
        have hi2 : i < (flatK enc d.sz l.toArray).size := by rw [hfl]; exact hi
        rw [List.getElem?_eq_getElem (by rw [hk]; exact hmod)]
        rw [Array.getElem?_toList, Array.getElem?_eq_getElem hi2]
        have hg2 := get_flatK enc d.sz l.toArray i (by simpa using hi)
        rw [getElem!_pos _ i hi2] at hg2
        rw [hg2, getElem!_pos l.toArray (i / d.sz) (by simpa using hq)]
        simp only [List.getElem_toArray]
        rw [getElem!_pos _ (i % d.sz) (by rw [hk]; exact hmod)]
      · rw [List.getElem?_eq_none (by rw [hlen]; omega), List.getElem?_eq_none (by simp; omega)]
    have hH : HoldsK enc d.sz w g 0 l.toArray := by
      intro j hj
      have hj' : j < l.length * d.sz := by rw [← hfl]; exact hj
      have hjc : j < cur.size := by rw [hcs]; exact Nat.lt_of_lt_of_le hj' (Nat.mul_le_mul_right _ hnc)
      refine ⟨?_, ?_⟩
      · have h1 := cell_of_row w g (0 + j) cur e (0, 0) hh
        rw [h1, Nat.zero_add]
        have h2 : (cur.toList.take (l.length * d.sz))[j]? = inner[j]? := by rw [htk]
        rw [List.getElem?_take, if_pos hj', hin, Array.getElem?_toList, Array.getElem?_toList] at h2
        rw [h2, Array.getElem?_eq_getElem hj, getElem!_pos _ j hj]; rfl
      · simp [World.frozen?, hh]
    refine (hcall g cap l.toArray w hH hgs (by simpa using hl)).mono ?_
    rintro r w' ⟨rfl, n, os, rfl⟩
    have hsz' : (srt l.toArray).size = l.length := by rw [hs]; simp
    have hF : (flatK enc d.sz (srt l.toArray)).size = l.length * d.sz := by simp [hsz']
    have hblk : (Go.Proofs.sortWorldK enc d.sz w g 0 n (srt l.toArray) os).heap[g]? = some (.cells (putCells id 0 (flatK enc d.sz (srt l.toArray)) cur) e (0, 0)) := by
      rw [heap_sortWorldK enc d.sz w g n _ os g hgs, if_pos rfl, hh]; rfl
    refine ⟨rfl, ⟨fun k hk => .inl (hok k hk), (flatK enc d.sz (srt l.toArray)).toList, ⟨by simp [hsz'], .inr ⟨g, cap, _, by simp [hsz'], hg, hblk, by simpa [hsz'] using hnc, hcm, by simpa [putCells] using hcs, ?_⟩⟩, ⟨by simp [hsz'], ?_⟩⟩, ?_, ?_⟩
    · have hle : (flatK enc d.sz (srt l.toArray)).size ≤ cur.size := by rw [hF, hcs]; exact Nat.mul_le_mul_right _ hnc
      have h3 := putCells_take cur (flatK enc d.sz (srt l.toArray)) hle
      rw [hF] at h3
      simpa [hsz'] using h3
    · intro j p hp
      refine hM.2 ?_
      have hjl : j < (srt l.toArray).size := by
        have := (List.getElem?_eq_some_iff.1 hp).1
        simpa using this
      have hp' : p = (srt l.toArray)[j]! := by
        rw [getElem!_pos _ j hjl]
        have := (List.getElem?_eq_some_iff.1 hp).2
        rw [← this]; simp
      apply List.ext_getElem?
      intro i
      rw [List.getElem?_take]
      by_cases hi : i < d.sz
      · rw [if_pos hi, List.getElem?_drop, Array.getElem?_toList]
        have hb : j * d.sz + i < (srt l.toArray).size * d.sz := by
          have h5 : (j + 1) * d.sz ≤ (srt l.toArray).size * d.sz := Nat.mul_le_mul_right _ hjl
          rw [Nat.add_mul, Nat.one_mul] at h5
          omega
        have hb2 : j * d.sz + i < (flatK enc d.sz (srt l.toArray)).size := by simpa using hb
        rw [Array.getElem?_eq_getElem hb2]
        have hg2 := get_flatK enc d.sz (srt l.toArray) (j * d.sz + i) hb
        rw [getElem!_pos (flatK enc d.sz (srt l.toArray)) (j * d.sz + i) hb2] at hg2
        have hsz : 0 < d.sz := by omega
        rw [hg2, show (j * d.sz + i) / d.sz = j from by rw [Nat.mul_comm, Nat.mul_add_div hsz, Nat.div_eq_of_lt hi, Nat.add_zero], show (j * d.sz + i) % d.sz = i from by rw [Nat.mul_comm, Nat.mul_add_mod, Nat.mod_eq_of_lt hi], ← hp', getElem!_pos (enc p) i (by rw [hk]; exact hi), List.getElem?_eq_getElem (by rw [hk]; exact hi)]
      · rw [if_neg hi, List.getElem?_eq_none (by rw [hk]; omega)]
    · refine ⟨hB.os, hB.tape, hB.output, Nat.le_trans hB.size (size_sortWorldK _ _ _ _ _ _ _), fun k hk => ?_⟩
      rw [heap_sortWorldK enc d.sz w g n _ os k (Nat.lt_of_lt_of_le hk hB.size), if_neg (by omega)]
      exact hB.block k hk
    · refine ⟨size_sortWorldK _ _ _ _ _ _ _, fun i hi hn => ?_⟩
      rw [heap_sortWorldK enc d.sz w g n _ os i hi, if_neg (fun h => hn (by rw [← h]; exact hP))]
end
structure BelowD (B : Nat) (w w' : World) : Prop where
  b : Below B w w'
  d : w.drawn ≤ w'.drawn
namespace D
theorem refl (B : Nat) (w : World) : BelowD B w w := ⟨Below.refl _ _, Nat.le_refl _⟩
theorem below_alloc {w W : World} (h : BelowD w.heap.size w W) (o : Obj) : BelowD w.heap.size w (W.alloc o) := ⟨Go.Proofs.YtadamegddcadcaaW.PrintWords.below_alloc h.b o, h.d⟩
theorem pw_below_drewN {B : Nat} {w W : World} (h : BelowD B w W) (n : Nat) : BelowD B w (W.drewN n) := ⟨Go.Proofs.YtadamegddcadcaaW.PrintWords.pw_below_drewN h.b n, Nat.le_trans h.d (Nat.le_add_right _ _)⟩
theorem below_drew1 {B : Nat} {w W : World} (h : BelowD B w W) : BelowD B w W.drew := ⟨h.b.drew, Nat.le_trans h.d (Nat.le_add_right _ _)⟩
theorem below_set {w W : World} {g j : Nat} {v : Value} (h : BelowD w.heap.size w W) (hg : w.heap.size ≤ g) : BelowD w.heap.size w (W.setCell ⟨g, j, none⟩ v) := ⟨Go.Proofs.YtadamegddcadcaaW.PrintWords.below_set h.b hg, by have := h.d; unfold World.setCell; (repeat' split) <;> exact this⟩
theorem lA {w W : World} (h : BelowD w.heap.size w W) (o : Obj) : BelowD w.heap.size w (W.alloc o) := below_alloc h o
theorem lN {B : Nat} {w W : World} (h : BelowD B w W) (n : Nat) : BelowD B w (W.drewN n) := pw_below_drewN h n
theorem lD {B : Nat} {w W : World} (h : BelowD B w W) : BelowD B w W.drew := below_drew1 h
theorem lS {w W : World} {g j : Nat} {v : Value} (h : BelowD w.heap.size w W) (hg : w.heap.size ≤ g) : BelowD w.heap.size w (W.setCell ⟨g, j, none⟩ v) := below_set h hg
theorem below_size {w W : World} (h : BelowD w.heap.size w W) : w.heap.size ≤ W.heap.size := h.b.size
theorem below_step {w W w2 : World} (h : BelowD w.heap.size w W) (k : BelowD W.heap.size W w2) : BelowD w.heap.size w w2 := ⟨Go.Proofs.YtadamegddcadcaaW.PrintWords.below_step h.b k.b, Nat.le_trans h.d k.d⟩
theorem blk_below {w w1 : World} {g : Nat} {o : Obj} (h : w.heap[g]? = some o) (hb : BelowD w.heap.size w w1) : w1.heap[g]? = some o := Go.Proofs.YtadamegddcadcaaW.PrintWords.blk_below h hb.b
section
variable {P : Program} {ops : Array Oper} {Q : Exit → Act → World → Prop} {rest : List Oper} {o : Oper} {a : Act} {W : World}
theorem box_event (hgd : o.guard = none) {N : Tmp} (_hd : o.dst = some N) {cs : Array Value} {t : TypeId}
    (hrun : (execOp a.eval o).run P W = .ok (.value (.pointer (some ⟨W.heap.size, 0, none⟩))) (W.alloc (.cells cs t (0, 0))))
    (h : ∀ g, g = W.heap.size → ∀ w1, w1.heap[g]? = some (.cells cs t (0, 0)) → BelowD W.heap.size W w1 → wpList P ops Q rest (a.put o.dst (.pointer (some ⟨g, 0, none⟩))) w1) : wpList P ops Q (o :: rest) a W :=
  Kd.event_run hgd hrun (h _ rfl _ (blk_new W _) (below_alloc (refl _ _) _))
end
section
variable {α : Type} {P : Program} {ops : Array Oper} {Q : Exit → Act → World → Prop} {o : Oper} {a : Act} {Kc : Act → World → Prop}
open Kd in
theorem R_lit_step (d : Kd α) {w0 W : World} (base e : Nat) (hw : Region.wanted o (yielded ops a.tmps) = true) {N : Tmp} (_hd : o.dst = some N) {xs : List α} {inner : List Value} {ok okp : Nat → Prop}
    (hrun : (execOp a.eval o).run P W = .ok (.value (.slice (some ⟨W.heap.size, 0, none⟩) xs.length xs.length)) (W.alloc (.cells inner.toArray e)))
    (hrep : Reps (d.M W base okp) d.sz xs inner) (hok : ∀ k, okp k → ok k) (hfresh : ok W.heap.size) (HB : BelowD base w0 W) (hbase : base ≤ W.heap.size) (hm : xs.length ≤ 9223372036854775807)
    (h : ∀ v1 w1, d.R e w1 base ok v1 xs → BelowD base w0 w1 → W.grownBy w1 none → (∃ b, v1.ownBlock = some b ∧ W.heap.size ≤ b) → Kc (a.put o.dst v1) w1) : if Region.wanted o (yielded ops a.tmps) = true then Oper.wp P o a W Kc Q else Kc (a.put o.dst undef) W := by
  refine event_step hw hrun (h _ _ ⟨fun k hk => ?_, inner, ?_, ?_⟩ ⟨HB.b.alloc hbase _, HB.d⟩ (World.grownBy_alloc W _ none) ⟨W.heap.size, by simp [Value.ownBlock], Nat.le_refl _⟩)
  · have : W.heap.size = k := by simpa [Value.ownBlock] using hk
    subst this
    exact hfresh
  · have h2 := World.ownsRow_lit (base := base) (e := e) (size := d.sz) W inner.toArray xs.length hbase (by simpa [maxLen] using hm) (by simpa using hrep.1)
    simpa using h2
  · refine hrep.imp_ (fun p c hp => d.M_mono (fun k hk => ⟨hok k hk.1, fun he => ?_⟩) (M_below (d.M_bound hp) (Go.Proofs.YtadamegddcadcaaW.PrintWords.below_alloc (Below.refl _ _) _)))
    have h3 : k = W.heap.size := by simpa [Value.ownBlock] using he
    have := hk.2.2.1
    omega
end
end D
theorem grown_of_belowD {w w' : World} (h : BelowD w.heap.size w w') : ∃ q os, w' = grow (w.drewN q) os := by
  refine ⟨w'.drawn - w.drawn, w'.heap.extract w.heap.size w'.heap.size, ?_⟩
  have hd : w.drawn + (w'.drawn - w.drawn) = w'.drawn := by have := h.d; omega
  have hh : w'.heap = w.heap ++ w'.heap.extract w.heap.size w'.heap.size := by
    apply Array.ext_getElem?
    intro i
    by_cases hi : i < w.heap.size
    · rw [Array.getElem?_append_left hi, h.b.block i hi]
    · rw [Array.getElem?_append_right (by omega), Array.getElem?_extract]
      have := h.b.size
      split
      · congr 1; omega
      · exact Array.getElem?_eq_none (by omega)
  cases w' with
  | mk hp tp dn o ot =>
    cases w with
    | mk hp0 tp0 dn0 o0 ot0 =>
      have h1 := h.b.os; have h2 := h.b.tape; have h3 := h.b.output
      simp only at h1 h2 h3 hh hd
      subst h1 h2 h3
      show World.mk hp tp dn o ot = { heap := hp0 ++ hp.extract hp0.size hp.size, tape := tp, drawn := dn0 + (dn - dn0), os := o, output := ot }
      rw [← hh, hd]
end Go.Proofs.YtadamegddcadcaaV
