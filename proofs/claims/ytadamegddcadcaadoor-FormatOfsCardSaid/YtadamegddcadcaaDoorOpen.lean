import Derived.Test.YtadamegddcadcaaDoorPi
import Derived.WideShapes
import Derived.ChangeShapes
import Derived.ChangeArms
import Derived.ReadAgain
set_option linter.unusedVariables false
namespace Go.Proofs.YtadamegddcadcaaDoorPi
open Go Go.ChangeShapes Go.WideShapes
section
variable {H : Type} {enc : TypeId × Value → H} {P : Program} {w : World} {base : Nat} {sp : Nat → Bool} {held : Bool}

/-! arguments, as they come -/
def inFs (P : Program) (chk : TypeId → Ty → Bool) : List Field → Ty → Nat → Bool
  | [], .unit, _ => true
  | f :: fs, .pair a b, off => f.offset == off && P.cellsOf f.type == a.size && chk f.type a && inFs P chk fs b (off + a.size)
  | _, _, _ => false
def inTy (P : Program) : Nat → TypeId → Ty → Bool
  | 0, _, _ => false
  | n + 1, t, T => match P.underlying t, T with
    | some .bool, .bool => true
    | some (.int k), .int k' => k == k'
    | some .string, .str => true
    | some (.slice e), .list U => P.cellsOf e == U.size && decide (0 < U.size) && inTy P n e U
    | some (.struct fs), T => T.isAgg && P.cellsOf t == T.size && inFs P (inTy P n) fs.toList T 0
    | _, _ => false

def good : (t : Ty) → t.den → Prop
  | .int k, n => (Lit.int k n).wf = true
  | .str, s => s.size ≤ maxLen
  | .pair a b, x => good a x.1 ∧ good b x.2
  | .list t, xs => xs.length ≤ maxLen ∧ ∀ x ∈ xs, good t x
  | _, _ => True

def mm (w : World) : Mem := fun b j => w.cell? ⟨b, j, none⟩
abbrev e0 (w : World) : Env := ⟨mm w, fun _ => none, fun _ => none⟩

theorem mapM_at {α β : Type} {f : α → Option β} : ∀ {l : List α} {r : List β}, l.mapM f = some r → ∀ (i : Nat) x, l[i]? = some x → ∃ y, r[i]? = some y ∧ f x = some y
  | [], r, h, i, x, hx => by simp at hx
  | a :: l, r, h, i, x, hx => by
    rw [List.mapM_cons] at h
    cases ha : f a with
    | none => rw [ha] at h; cases h
    | some b =>
      cases hl : l.mapM f with
      | none => rw [ha, hl] at h; cases h
      | some bs =>
        rw [ha, hl] at h
        obtain rfl : b :: bs = r := Option.some.inj h
        cases i with
        | zero => obtain rfl : a = x := Option.some.inj hx; exact ⟨b, rfl, ha⟩
        | succ i => exact mapM_at hl i x hx
theorem mapM_len {α β : Type} {f : α → Option β} : ∀ {l : List α} {r : List β}, l.mapM f = some r → r.length = l.length
  | [], r, h => by rw [List.mapM_nil] at h; obtain rfl : [] = r := Option.some.inj h; rfl
  | a :: l, r, h => by
    rw [List.mapM_cons] at h
    cases ha : f a with
    | none => rw [ha] at h; cases h
    | some b =>
      cases hl : l.mapM f with
      | none => rw [ha, hl] at h; cases h
      | some bs =>
        rw [ha, hl] at h
        obtain rfl : b :: bs = r := Option.some.inj h
        simp [mapM_len hl]
theorem cells_at {a : Addr} {n : Nat} {cs : List Value} (h : w.cells? base a n = some cs) : cs.length = n ∧ ∀ j v, cs[j]? = some v → w.cell? (a.add j) = some v := by
  unfold World.cells? at h
  split at h
  · refine ⟨by rw [mapM_len h, List.length_range], fun j v hj => ?_⟩
    have hl := mapM_len h
    have hlt := (List.getElem?_eq_some_iff.1 hj).1
    rw [List.length_range] at hl
    obtain ⟨y, hy, hf⟩ := mapM_at h j j (by rw [List.getElem?_range (by omega)])
    rw [hj] at hy
    obtain rfl := Option.some.inj hy
    exact hf
  · cases h
theorem spot_none {a : Addr} {v : Value} (h : w.cell? a = some v) : a.spot = none := by
  unfold World.cell? at h
  split at h
  · split at h
    · cases h
    · rename_i hs; cases hh : a.spot with
      | none => rfl
      | some x => rw [hh] at hs; simp at hs
  · cases h
theorem add_at {a : Addr} (h : a.spot = none) (n : Nat) : a.add n = ⟨a.block, a.off + n, none⟩ := by
  unfold Addr.add; split
  · rename_i hz; obtain ⟨b, o, s⟩ := a; simp only at h; subst h; simp [hz]
  · rfl
theorem choose_list {α : Type} {Q : Nat → α → Prop} : ∀ (n : Nat), (∀ i, i < n → ∃ x, Q i x) → ∃ xs : List α, xs.length = n ∧ ∀ (i : Nat) x, xs[i]? = some x → Q i x
  | 0, _ => ⟨[], rfl, fun i x h => by simp at h⟩
  | n + 1, h => by
    obtain ⟨xs, hl, hx⟩ := choose_list n (fun i hi => h i (by omega))
    obtain ⟨y, hy⟩ := h n (by omega)
    refine ⟨xs ++ [y], by simp [hl], fun i x hi => ?_⟩
    by_cases hlt : i < n
    · rw [List.getElem?_append_left (by omega)] at hi; exact hx i x hi
    · have hi' := (List.getElem?_eq_some_iff.1 hi).1
      rw [List.length_append, hl] at hi'
      have : i = n := by simp at hi'; omega
      subst this
      rw [List.getElem?_append_right (by omega), hl, Nat.sub_self] at hi
      obtain rfl : y = x := Option.some.inj hi
      exact hy

theorem open_fs {chk : TypeId → Ty → Bool} {r : TypeId → List Value → Option (DataW H × List MemPlace)} {cs : List Value}
    (hr : ∀ t T c y, chk t T = true → r t c = some y → ∃ x : T.den, rep (e0 w) T x c ∧ good T x) : ∀ (fs : List Field) (T : Ty) (off : Nat), inFs P chk fs T off = true → cs.length = off + T.size →
      (∀ (i : Nat) (f : Field), fs[i]? = some f → ∃ y, r f.type ((cs.drop f.offset).take (P.cellsOf f.type)) = some y) → ∃ x : T.den, rep (e0 w) T x (cs.drop off) ∧ good T x
  | [], .unit, off, _, hl, _ => ⟨(), by show cs.drop off = []; exact List.drop_eq_nil_of_le (by simp [Ty.size] at hl; omega), trivial⟩
  | f :: fs, .pair a b, off, h, hl, hf => by
    simp only [inFs, Bool.and_eq_true, beq_iff_eq] at h
    obtain ⟨⟨⟨h1, h2⟩, h3⟩, h4⟩ := h
    simp only [Ty.size] at hl
    obtain ⟨y, hy⟩ := hf 0 f rfl
    obtain ⟨x1, r1, g1⟩ := hr _ _ _ _ h3 hy
    obtain ⟨x2, r2, g2⟩ := open_fs hr fs b (off + a.size) h4 (by omega) (fun i f' hi => hf (i + 1) f' hi)
    refine ⟨(x1, x2), ⟨(cs.drop off).take a.size, cs.drop (off + a.size), ?_, ?_, r2⟩, g1, g2⟩
    · rw [← List.drop_drop, List.take_append_drop]
    · rw [h1, h2] at r1; exact r1
  | [], .bool, _, h, _, _ | [], .int _, _, h, _, _ | [], .str, _, h, _, _ | [], .pair _ _, _, h, _, _ | [], .list _, _, h, _, _ | [], .own _ _, _, h, _, _ | [], .ref _, _, h, _, _ | [], .ptr _ _ _, _, h, _, _ | [], .fn _ _ _, _, h, _, _ => by simp [inFs] at h
  | _ :: _, .unit, _, h, _, _ | _ :: _, .bool, _, h, _, _ | _ :: _, .int _, _, h, _, _ | _ :: _, .str, _, h, _, _ | _ :: _, .list _, _, h, _, _ | _ :: _, .own _ _, _, h, _, _ | _ :: _, .ref _, _, h, _, _ | _ :: _, .ptr _ _ _, _, h, _, _ | _ :: _, .fn _ _ _, _, h, _, _ => by simp [inFs] at h

theorem open_cells : ∀ (n : Nat) (t : TypeId) (T : Ty), inTy P n t T = true → ∀ (fuel : Nat) (cs : List Value) (y : DataW H × List MemPlace), DataW.trod enc P w base sp held fuel t cs = some y → ∃ x : T.den, rep (e0 w) T x cs ∧ good T x
  | 0, _, _, h, _, _, _, _ => by simp [inTy] at h
  | n + 1, t, T, h, fuel, cs, y, hy => by
    simp only [inTy] at h
    split at h
    · rename_i hu
      obtain ⟨b, rfl, _⟩ := DataW.trod_bool hu hy
      exact ⟨b, rfl, trivial⟩
    · rename_i k k' hu
      obtain rfl := beq_iff_eq.1 h
      obtain ⟨m, rfl, _, hw⟩ := DataW.trod_int hu hy
      exact ⟨m, rfl, hw⟩
    · rename_i hu
      obtain ⟨s, rfl, _, hs⟩ := DataW.trod_string hu hy
      exact ⟨s, rfl, hs⟩
    · rename_i e U hu
      simp only [Bool.and_eq_true, beq_iff_eq, decide_eq_true_eq] at h
      obtain ⟨⟨hc, hpos⟩, hin⟩ := h
      rcases DataW.trod_slice hu hy with ⟨rfl, _⟩ | ⟨a, len, cap, elems, rest, m, _, rfl, _, _, hlc, hcap, hel, hat, _⟩
      · exact ⟨[], ⟨none, 0, rfl, Nat.le_refl _, fun i x hx => by simp at hx⟩, Nat.zero_le _, fun x hx => by simp at hx⟩
      · have one : ∀ i, i < len → ∃ x : U.den, ∃ c, a.spot = none ∧ rep (e0 w) U x c ∧ Row (mm w) ⟨a.block, a.off + i * U.size, none⟩ c ∧ good U x := by
          intro i hi
          have sp0 : a.spot = none := by
            have h0 := hat 0 (by omega)
            rw [List.getElem?_eq_getElem (by omega), Option.bind_eq_some_iff] at h0
            obtain ⟨c0, hc0, _⟩ := h0
            obtain ⟨hl0, hc0'⟩ := cells_at hc0
            have hlt : 0 < c0.length := by omega
            have := hc0' 0 _ (List.getElem?_eq_getElem hlt)
            rw [Nat.zero_mul] at this
            exact spot_none this
          have hi' := hat i hi
          rw [List.getElem?_eq_getElem (by omega), Option.bind_eq_some_iff] at hi'
          obtain ⟨c, hcc, htr⟩ := hi'
          obtain ⟨x, hr, hg⟩ := open_cells n e U hin m c _ htr
          obtain ⟨_, hcat⟩ := cells_at hcc
          refine ⟨x, c, sp0, hr, ⟨rfl, fun j v hj => ?_⟩, hg⟩
          have := hcat j v hj
          rw [hc, add_at sp0, add_at rfl] at this
          exact this
        obtain ⟨xs, hl, hx⟩ := choose_list len one
        refine ⟨xs, ⟨some a, cap, by rw [hl], by rw [hl]; exact hlc, fun i x hi => ?_⟩, by rw [hl]; exact Nat.le_trans hlc hcap, fun x hx' => ?_⟩
        · obtain ⟨c, s, r, rw', _⟩ := hx i x hi
          exact ⟨a, c, rfl, s, r, rw'⟩
        · obtain ⟨i, hi⟩ := List.getElem?_of_mem hx'
          obtain ⟨_, _, _, _, g⟩ := hx i x hi
          exact g
    · rename_i fs hu
      simp only [Bool.and_eq_true, beq_iff_eq] at h
      obtain ⟨⟨_, hcz⟩, hfs⟩ := h
      obtain ⟨xs, m, _, _, hl, hxl, hat⟩ := DataW.trod_struct hu hy
      have := open_fs (P := P) (w := w) (cs := cs) (r := DataW.trod enc P w base sp held m) (fun t' T' c y' h1 h2 => open_cells n t' T' h1 m c y' h2) fs.toList _ 0 hfs (by omega) (fun i f hi => by
        have hi' : fs[i]? = some f := by simpa using hi
        have h2 := hat i f hi'
        have hlt : i < xs.length := by rw [hxl]; exact (Array.getElem?_eq_some_iff.1 hi').1
        exact ⟨xs[i], by rw [h2, List.getElem?_eq_getElem hlt]⟩)
      exact this
    · cases h

theorem open_val {n : Nat} {t : TypeId} {T : Ty} {r : Reach} {b0 : Nat} {v : Value} {d : DataW H} {ps : List MemPlace} (h : inTy P n t T = true) (hok : Value.okWide P w r b0 t v) (hd : DataW.Trod enc P w base sp held t v d ps) :
    ∃ x : T.den, VRep (e0 w) T x v ∧ good T x := by
  obtain ⟨fuel, hf⟩ := hd
  obtain ⟨x, hr, hg⟩ := open_cells n t T h fuel _ _ hf
  refine ⟨x, ⟨_, hr, ?_⟩, hg⟩
  cases n with
  | zero => simp [inTy] at h
  | succ n =>
    simp only [inTy] at h
    split at h
    · rename_i hu; obtain ⟨b, rfl⟩ := okWide_bool hu hok; rfl
    · rename_i hu; obtain ⟨b, rfl⟩ := okWide_int hu hok; rfl
    · rename_i hu; obtain ⟨b, rfl⟩ := okWide_string hu hok; rfl
    · rename_i hu; obtain ⟨a, l, c, rfl⟩ := okWide_slice hu hok; rfl
    · rename_i fs hu
      simp only [Bool.and_eq_true] at h
      unfold Value.okWide at hok
      rw [hu] at hok
      obtain ⟨cs, rfl, _⟩ := hok
      unfold mkV; rw [if_pos h.1.1]; simp [Value.cells]
    · cases h

def inAll (P : Program) (n : Nat) : List TypeId → Ty → Bool
  | [], .unit => true
  | t :: ts, .pair a b => inTy P n t a && inAll P n ts b
  | _, _ => false
def goods : (t : Ty) → t.den → Prop
  | .pair a b, x => good a x.1 ∧ goods b x.2
  | _, _ => True
theorem open_all {n : Nat} {r : Reach} {b0 : Nat} : ∀ (ts : List TypeId) (T : Ty) (vs : List Value) (ds : List (DataW H)) (ps : List MemPlace), inAll P n ts T = true → (∀ (j : Nat) t v, ts[j]? = some t → vs[j]? = some v → Value.okWide P w r b0 t v) →
    DataW.TrodAll enc P w base sp held ts vs ds ps → ∃ x : T.den, vals (e0 w) T x vs ∧ goods T x ∧ ds.length = ts.length
  | [], .unit, [], [], _, _, _, _ => ⟨(), rfl, trivial, rfl⟩
  | t :: ts, .pair a b, v :: vs, d :: ds, _, h, hok, ⟨p, q, h1, h2, _⟩ => by
    simp only [inAll, Bool.and_eq_true] at h
    obtain ⟨x, hx, gx⟩ := open_val h.1 (hok 0 t v rfl rfl) h1
    obtain ⟨y, hy, gy, hl⟩ := open_all ts b vs ds q h.2 (fun j t' v' ht hv => hok (j + 1) t' v' ht hv) h2
    exact ⟨(x, y), ⟨v, vs, rfl, hx, hy⟩, ⟨gx, gy⟩, by simp [hl]⟩
  | [], .unit, _ :: _, _, _, _, _, h | [], .unit, [], _ :: _, _, _, _, h => by simp [DataW.TrodAll] at h
  | _ :: _, .pair _ _, [], _, _, _, _, h | _ :: _, .pair _ _, _ :: _, [], _, _, _, h => by simp [DataW.TrodAll] at h
   | [], .bool, _, _, _, h, _, _ | [], .int _, _, _, _, h, _, _ | [], .str, _, _, _, h, _, _ | [], .pair _ _, _, _, _, h, _, _ | [], .list _, _, _, _, h, _, _ | [], .own _ _, _, _, _, h, _, _ | [], .ref _, _, _, _, h, _, _ | [], .ptr _ _ _, _, _, _, h, _, _ | [], .fn _ _ _, _, _, _, h, _, _ => by simp [inAll] at h
  | _ :: _, .unit, _, _, _, h, _, _ | _ :: _, .bool, _, _, _, h, _, _ | _ :: _, .int _, _, _, _, h, _, _ | _ :: _, .str, _, _, _, h, _, _ | _ :: _, .list _, _, _, _, h, _, _ | _ :: _, .own _ _, _, _, _, h, _, _ | _ :: _, .ref _, _, _, _, h, _, _ | _ :: _, .ptr _ _ _, _, _, _, h, _, _ | _ :: _, .fn _ _ _, _, _, _, h, _, _ => by simp [inAll] at h

/-- Behind a call that changes nothing of old the arguments read as they did. -/
theorem close_all {w' : World} (hk : Kids P (· < P.types.size)) (hz : ((List.range P.types.size).all fun t => match P.underlying t with | some (.slice e) => decide (0 < P.cellsOf e) | _ => true) = true)
    (hb : ∀ b, b < w.heap.size → w'.heap[b]? = w.heap[b]?) {ts : List TypeId} {vs : List Value} {ds : List (DataW H)} {ps : List MemPlace} (hts : ∀ t ∈ ts, t < P.types.size) (h : DataW.TrodAll enc P w 0 (fun _ => true) true ts vs ds ps) :
    DataW.TrodAll enc P w' 0 (fun b => decide (b < w.heap.size)) true ts vs ds ps := by
  have hlt := h.lt
  have h1 := DataW.TrodAll.respare (spare' := fun b => decide (b < w.heap.size)) hk (slices_full_of P hz) hts h (fun p hp => by simpa using hlt p hp)
  have same : ∀ p : MemPlace, p.block < w.heap.size → w.sameAt w' p := fun p hp => by
    cases p with
    | cell b off => show w'.cell? _ = w.cell? _; unfold World.cell?; rw [hb b hp]
    | map b => exact hb b hp
  clear h hts
  revert hlt
  induction ts generalizing vs ds ps with
  | nil => intro _; cases vs <;> cases ds <;> first | exact h1 | simp [DataW.TrodAll] at h1
  | cons t ts ih =>
    intro hlt
    cases vs with
    | nil => simp [DataW.TrodAll] at h1
    | cons v vs => cases ds with
      | nil => simp [DataW.TrodAll] at h1
      | cons d ds =>
        obtain ⟨p, q, ⟨fuel, hf⟩, h3, rfl⟩ := h1
        exact ⟨p, q, ⟨fuel, DataW.trod_carry fuel t _ _ hf (fun x hx => same x (hlt x (List.mem_append_left _ hx)))⟩, ih h3 (fun x hx => hlt x (List.mem_append_right _ hx)), rfl⟩
end
/-! the smallest arguments -/
def zcells : Ty → List Value
  | .bool => [.bool false] | .int k => [.int k 0] | .str => [.string ⟨#[]⟩] | .pair a b => zcells a ++ zcells b | .list _ => [.slice none 0 0] | _ => []
def zvals : Ty → List Value
  | .pair a b => mkV a (zcells a) :: zvals b
  | _ => []
theorem list1 {α : Type} {l : List α} (h : l.length = 1) : ∃ a, l = [a] := by match l, h with | [a], _ => exact ⟨a, rfl⟩
theorem list2 {α : Type} {l : List α} (h : l.length = 2) : ∃ a b, l = [a, b] := by match l, h with | [a, b], _ => exact ⟨a, b, rfl⟩
theorem list3 {α : Type} {l : List α} (h : l.length = 3) : ∃ a b c, l = [a, b, c] := by match l, h with | [a, b, c], _ => exact ⟨a, b, c, rfl⟩
theorem list4 {α : Type} {l : List α} (h : l.length = 4) : ∃ a b c d, l = [a, b, c, d] := by match l, h with | [a, b, c, d], _ => exact ⟨a, b, c, d, rfl⟩
theorem list5 {α : Type} {l : List α} (h : l.length = 5) : ∃ a b c d e, l = [a, b, c, d, e] := by match l, h with | [a, b, c, d, e], _ => exact ⟨a, b, c, d, e, rfl⟩
theorem list6 {α : Type} {l : List α} (h : l.length = 6) : ∃ a b c d e f, l = [a, b, c, d, e, f] := by match l, h with | [a, b, c, d, e, f], _ => exact ⟨a, b, c, d, e, f, rfl⟩
end Go.Proofs.YtadamegddcadcaaDoorPi
