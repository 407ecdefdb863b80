import Derived.Test.YtadamegddcadcaaGreatDoorPiB
import Derived.Shelf.SlSortCmp.WholeK
import Derived.Shelf.SlSortCmp.NoneTotal
import Derived.Test.YtadamegddcadcaaGreatDoorFnA
import Derived.Ground.SlsfProg
set_option linter.unusedVariables false
namespace Go.Proofs.YtadamegddcadcaaGreatDoorPi
open Go

/-! plain words for the printed functions -/
theorem w64_id {x : Int} (h0 : -9223372036854775808 ≤ x) (h1 : x ≤ 9223372036854775807) : w64 x = x := by
  show IntKind.wrap .i64 x = x
  unfold IntKind.wrap IntKind.bits IntKind.signed
  simp
  omega
theorem cb_eq {α : Type} (x y : Int) (a b : α) : (bif (x == y) then a else b) = if x = y then a else b := by
  by_cases h : x = y
  · have : (x == y) = true := beq_iff_eq.2 h
    rw [if_pos h, this]; rfl
  · have : (x == y) = false := beq_eq_false_iff_ne.2 h
    rw [if_neg h, this]; rfl
theorem cb_ne {α : Type} (x y : Int) (a b : α) : (bif (x != y) then a else b) = if x = y then b else a := by
  by_cases h : x = y
  · have : (x == y) = true := beq_iff_eq.2 h
    rw [if_pos h]; unfold bne; rw [this]; rfl
  · have : (x == y) = false := beq_eq_false_iff_ne.2 h
    rw [if_neg h]; unfold bne; rw [this]; rfl
theorem cb_not {α : Type} (c : Bool) (a b : α) : (bif !c then a else b) = bif c then b else a := by cases c <;> rfl
theorem cb_dec {α : Type} (p : Prop) [Decidable p] (a b : α) : (bif decide p then a else b) = if p then a else b := by
  by_cases h : p
  · rw [if_pos h, decide_eq_true h]; rfl
  · rw [if_neg h, decide_eq_false h]; rfl
theorem cb_if {α : Type} (c : Bool) (a b : α) : (bif c then a else b) = if c = true then a else b := by cases c <;> rfl
theorem tmod_zero (x k : Int) : (Int.tmod x k = 0) ↔ (x % k = 0) := by
  rw [← Int.dvd_iff_tmod_eq_zero, Int.dvd_iff_emod_eq_zero]
/-- Rounds come to G where each round does. -/
theorem rounds_eq {R σ : Type} {f : (σ → Option R) → σ → Option R} {G : σ → Option R} (I : σ → Prop) (μ : σ → Nat) (h : ∀ rec z, I z → (∀ z', I z' → μ z' < μ z → rec z' = G z') → f rec z = G z) : ∀ n z, I z → μ z < n → rounds f n z = G z
  | 0, _, _, h2 => by omega
  | n + 1, z, hI, h2 => h (rounds f n) z hI fun z' hI' hm => rounds_eq I μ h n z' hI' (by omega)
theorem and_mod {y : Int} {k : Nat} (hk : k < 64) : ((BitVec.ofInt (IntKind.bits .i64) y &&& BitVec.ofInt (IntKind.bits .i64) ((2 ^ k - 1 : Nat) : Int)).toNat : Int) = y % ((2 ^ k : Nat) : Int) := by
  show ((BitVec.ofInt 64 y &&& BitVec.ofInt 64 ((2 ^ k - 1 : Nat) : Int)).toNat : Int) = _
  have hlt : 2 ^ k - 1 < 2 ^ 64 := by
    have : 2 ^ k < 2 ^ 64 := Nat.pow_lt_pow_right (by omega) hk
    omega
  rw [BitVec.toNat_and, BitVec.toNat_ofInt, BitVec.toNat_ofInt]
  have e1 : (((2 ^ k - 1 : Nat) : Int) % ((2 ^ 64 : Nat) : Int)).toNat = 2 ^ k - 1 := by
    rw [← Int.natCast_emod, Int.toNat_natCast, Nat.mod_eq_of_lt hlt]
  rw [e1, Nat.and_two_pow_sub_one_eq_mod, Int.natCast_emod]
  rw [Int.toNat_of_nonneg (Int.emod_nonneg _ (by omega))]
  have hd : ((2 ^ k : Nat) : Int) ∣ ((2 ^ 64 : Nat) : Int) := Int.natCast_dvd_natCast.2 (Nat.pow_dvd_pow 2 (by omega))
  exact Int.emod_emod_of_dvd y hd
/-- It answers, and so. -/
def Ok {R : Type} (o : Option R) (Q : R → Prop) : Prop := ∃ r, o = some r ∧ Q r
theorem Ok.ret {R : Type} {x : R} {Q : R → Prop} (h : Q x) : Ok (some x) Q := ⟨x, rfl, h⟩
theorem Ok.bind {A R : Type} {o : Option A} {f : A → Option R} {P : A → Prop} {Q : R → Prop} (h : Ok o P) (k : ∀ a, P a → Ok (f a) Q) : Ok (o.bind f) Q := by
  obtain ⟨a, rfl, ha⟩ := h
  exact k a ha
theorem Ok.mono {R : Type} {o : Option R} {P Q : R → Prop} (h : Ok o P) (k : ∀ r, P r → Q r) : Ok o Q := by
  obtain ⟨a, e, ha⟩ := h
  exact ⟨a, e, k a ha⟩
theorem Ok.bif {R : Type} {c : Bool} {a b : Option R} {Q : R → Prop} (h1 : c = true → Ok a Q) (h2 : c = false → Ok b Q) : Ok (bif c then a else b) Q := by
  cases c with
  | true => exact h1 rfl
  | false => exact h2 rfl
theorem Ok.dec {R : Type} {p : Prop} [Decidable p] {a b : Option R} {Q : R → Prop} (h1 : p → Ok a Q) (h2 : ¬ p → Ok b Q) : Ok (cond (decide p) a b) Q := by
  by_cases h : p
  · rw [decide_eq_true h]; exact h1 h
  · rw [decide_eq_false h]; exact h2 h
theorem Ok.get {A : Type} {xs : List A} {i : Int} (h0 : 0 ≤ i) (h1 : i < (xs.length : Int)) : Ok (xs[Int.toNat i]?) (fun x => x ∈ xs ∧ xs[Int.toNat i]? = some x) := by
  have hlt : i.toNat < xs.length := by omega
  exact ⟨xs[i.toNat], List.getElem?_eq_getElem hlt, List.getElem_mem hlt, List.getElem?_eq_getElem hlt⟩
theorem rounds_ok {R σ : Type} {f : (σ → Option R) → σ → Option R} {Q : R → Prop} (I : σ → Prop) (μ : σ → Nat) (h : ∀ rec z, I z → (∀ z', I z' → μ z' < μ z → Ok (rec z') Q) → Ok (f rec z) Q) : ∀ n z, I z → μ z < n → Ok (rounds f n z) Q
  | 0, _, _, h2 => by omega
  | n + 1, z, hI, h2 => h (rounds f n) z hI fun z' hI' hm => rounds_ok I μ h n z' hI' (by omega)
theorem i64max : IntKind.i64.max = 9223372036854775807 := by decide
end Go.Proofs.YtadamegddcadcaaGreatDoorPi

namespace Go.Proofs.YtadamegddcadcaaGreatDoorPi
open Go Go.Sort Go.RowKit Go.Lib

theorem heap_mapBlock (w : World) (g : Nat) (f : Array Value → Array Value) (i : Nat) : (mapBlock w g f).heap[i]? = if g = i then (w.heap[i]?).map (onCells f) else w.heap[i]? := by
  unfold mapBlock
  simp only [Array.getElem?_modify]
theorem size_mapBlock (w : World) (g : Nat) (f : Array Value → Array Value) : (mapBlock w g f).heap.size = w.heap.size := by unfold mapBlock; simp
theorem heap_sortWorldK {α : Type} [Inhabited α] (enc : α → List Value) (k : Nat) (w : World) (g n : Nat) (d : Array α) (os : Array Obj) (i : Nat) (hi : i < w.heap.size) :
    (Go.Proofs.sortWorldK enc k w g 0 n d os).heap[i]? = if g = i then (w.heap[i]?).map (onCells (putCells id 0 (flatK enc k d))) else w.heap[i]? := by
  have hs : (mapBlock (Sort.ahead w n) g (putCells id 0 (flatK enc k d))).heap.size = w.heap.size := by
    rw [size_mapBlock]; rfl
  unfold Go.Proofs.sortWorldK grow putRowK putRow
  show ((mapBlock (Sort.ahead w n) g _).heap ++ os)[i]? = _
  rw [Array.getElem?_append_left (by rw [hs]; exact hi), heap_mapBlock]
  rfl
theorem size_sortWorldK {α : Type} [Inhabited α] (enc : α → List Value) (k : Nat) (w : World) (g n : Nat) (d : Array α) (os : Array Obj) :
    w.heap.size ≤ (Go.Proofs.sortWorldK enc k w g 0 n d os).heap.size := by
  have hs : (mapBlock (Sort.ahead w n) g (putCells id 0 (flatK enc k d))).heap.size = w.heap.size := by
    rw [size_mapBlock]; rfl
  unfold Go.Proofs.sortWorldK grow putRowK putRow
  show _ ≤ ((mapBlock (Sort.ahead w n) g _).heap ++ os).size
  rw [Array.size_append, hs]; omega
theorem drawn_sortWorldK {α : Type} [Inhabited α] (enc : α → List Value) (k : Nat) (w : World) (g n : Nat) (d : Array α) (os : Array Obj) :
    w.drawn ≤ (Go.Proofs.sortWorldK enc k w g 0 n d os).drawn := by
  show w.drawn ≤ w.drawn + n; omega
theorem putCells_take (c : Array Value) (F : Array Value) (h : F.size ≤ c.size) : ((putCells id 0 F c).toList).take F.size = F.toList := by
  apply List.ext_getElem?
  intro i
  rw [List.getElem?_take]
  by_cases hi : i < F.size
  · rw [if_pos hi]
    have hc : i < c.size := by omega
    simp [putCells, hi, hc]
  · rw [if_neg hi]
    simp; omega
theorem flatK_list {α : Type} [Inhabited α] (enc : α → List Value) (k : Nat) (hk : ∀ x, (enc x).length = k) (l : List α) : (flatK enc k l.toArray).toList = l.flatMap enc := by
  have hlen : ∀ l : List α, (l.flatMap enc).length = l.length * k := fun l => by
    induction l with
    | nil => simp
    | cons x l ih => rw [List.flatMap_cons, List.length_append, ih, hk, List.length_cons, Nat.add_mul]; omega
  have get : ∀ (l : List α) (i j : Nat) (x : α), l[i]? = some x → j < k → (l.flatMap enc)[i * k + j]? = (enc x)[j]? := fun l => by
    induction l with
    | nil => intro i j x h; simp at h
    | cons y l ih =>
      intro i j x h hj
      rw [List.flatMap_cons]
      cases i with
      | zero =>
        simp only [List.getElem?_cons_zero, Option.some.injEq] at h; subst h
        rw [Nat.zero_mul, Nat.zero_add, List.getElem?_append_left (by rw [hk]; exact hj)]
      | succ i =>
        simp only [List.getElem?_cons_succ] at h
        rw [List.getElem?_append_right (by rw [hk, Nat.add_mul]; omega), hk, show (i + 1) * k + j - k = i * k + j by rw [Nat.add_mul]; omega]
        exact ih i j x h hj
  apply List.ext_getElem?
  intro i
  by_cases hi : i < l.length * k
  · have hk0 : 0 < k := by rcases Nat.eq_zero_or_pos k with h | h
                           · rw [h] at hi; simp at hi
                           · exact h
    have hq : i / k < l.length := Nat.div_lt_of_lt_mul (by rw [Nat.mul_comm]; exact hi)
    have hr : i % k < k := Nat.mod_lt _ hk0
    have e : i = i / k * k + i % k := by rw [Nat.mul_comm]; exact (Nat.div_add_mod i k).symm
    have h1 := get l (i / k) (i % k) l[i / k] (List.getElem?_eq_getElem hq) hr
    rw [← e] at h1
    rw [h1]
    have hi2 : i < (flatK enc k l.toArray).size := by simpa using hi
    rw [Array.getElem?_toList, Array.getElem?_eq_getElem hi2]
    have hg := get_flatK enc k l.toArray i (by simpa using hi)
    rw [getElem!_pos _ i hi2] at hg
    rw [hg, getElem!_pos l.toArray (i / k) (by simpa using hq)]
    simp only [List.getElem_toArray]
    rw [getElem!_pos _ (i % k) (by rw [hk]; exact hr), List.getElem?_eq_getElem (by rw [hk]; exact hr)]
  · rw [List.getElem?_eq_none (by simp; omega), List.getElem?_eq_none (by rw [hlen]; omega)]
theorem reps_enc {E : Env} {t : Ty} {enc : t.den → List Value} (hr : ∀ x cs, rep E t x cs ↔ cs = enc x) : ∀ (xs : List t.den) (l : List Value), reps E t xs l ↔ l = xs.flatMap enc
  | [], l => by simp [reps]
  | x :: xs, l => by
    rw [List.flatMap_cons]
    constructor
    · rintro ⟨c1, c2, e, r1, r2⟩
      rw [e, (hr x c1).1 r1, (reps_enc hr xs c2).1 r2]
    · intro h
      exact ⟨enc x, xs.flatMap enc, h, (hr x _).2 rfl, (reps_enc hr xs _).2 rfl⟩

/-- What slices.SortFunc makes of a list. -/
def sortL {α : Type} [Inhabited α] (cf : α → α → Int) (l : List α) : List α := (pdq (Go.Proofs.ltOf cf) l.toArray 0 l.toArray.size (Lib.bitLen l.toArray.size) true true).toList
theorem sortL_spec {α : Type} [Inhabited α] (cf : α → α → Int) (hO : SWO (Go.Proofs.ltOf cf)) (l : List α) : (sortL cf l).Perm l ∧ (sortL cf l).Pairwise (fun x y => Go.Proofs.ltOf cf y x = false) := by
  obtain ⟨⟨hsz, _, hperm⟩, hso⟩ := pdq_sorts (Go.Proofs.ltOf cf) hO l.toArray 0 l.toArray.size (Lib.bitLen l.toArray.size) true true (Nat.zero_le _) (Nat.le_refl _) (Or.inl rfl)
  refine ⟨?_, ?_⟩
  · have e1 : ∀ d : Array α, d.size = l.toArray.size → d.extract 0 l.toArray.size = d := fun d hd => by rw [← hd]; exact Array.extract_size
    rw [e1 _ hsz, e1 _ rfl] at hperm
    simpa [sortL] using hperm
  · rw [List.pairwise_iff_getElem]
    intro i j hi hj hij
    have hi' : i < (pdq (Go.Proofs.ltOf cf) l.toArray 0 l.toArray.size (Lib.bitLen l.toArray.size) true true).size := by simpa [sortL] using hi
    have hj' : j < (pdq (Go.Proofs.ltOf cf) l.toArray 0 l.toArray.size (Lib.bitLen l.toArray.size) true true).size := by simpa [sortL] using hj
    have := hso i j (Nat.zero_le _) hij (by rw [hsz] at hj'; exact hj')
    rw [getElem!_pos _ j hj', getElem!_pos _ i hi'] at this
    simpa [sortL] using this
theorem sortL_length {α : Type} [Inhabited α] (cf : α → α → Int) (hO : SWO (Go.Proofs.ltOf cf)) (l : List α) : (sortL cf l).length = l.length := (sortL_spec cf hO l).1.length_eq

/-- slices.SortFunc at structs without inner rows, a function of the program's comparing. -/
theorem sort_sound {P : Program} {C : Ctx} {ρ : Go.Shelf.Ren} {t : Ty} [Inhabited t.den] {e : TypeId} (hd : C.d = true) (L : SlLaysF0.n6 P ρ) (aE : ∀ w, (isAgg (ρ.t 24)).run P w = .ok true w) (zE : ∀ w, (Go.sizeOf (ρ.t 24)).run P w = .ok t.size w) (enc : t.den → List Value)
    (hk : ∀ x, (enc x).length = t.size) (h1 : ∀ x, ∀ v ∈ enc x, v.oneCell' = true) (hag : t.isAgg = true) (hr : ∀ E x cs, rep E t x cs ↔ cs = enc x) (cf : t.den → t.den → Int) (hO : SWO (Go.Proofs.ltOf cf)) {g : FuncId} {rs : Ty} {G : Nat → (Ty.pair t (.pair t .unit)).den → Option (Ty.pair (.int .i64) .unit).den}
    (hg : Sound P C g ⟨.pair t (.pair t .unit), .pair (.int .i64) .unit, G⟩) {N : Nat} (hG : ∀ x y, G N (x, (y, ())) = some (cf x y, ())) (hent : ∀ (args : Array Value) (w : World), (callFunc (ρ.f 6) args).run P w = .ok (.enter (ρ.f 6) args) w) :
    SoundX P C (ρ.f 6) (.i ⟨e, t, .pair (.fn g 0 .unit) .unit, fun _ xs _ => if xs.length < 4611686018427387904 then some (sortL cf xs) else none⟩) := by
  refine ⟨hent, fun n xs y ys hF m β τ w v l vs hi hΓ hv ho hrp hm => ?_⟩
  simp only at hF ho hrp
  obtain ⟨u, vs', rfl, ⟨cs, ⟨bs, hbs, rfl⟩, rfl⟩, hvs'⟩ := hv
  obtain rfl : vs' = [] := hvs'
  obtain rfl : bs = [] := hbs
  split at hF
  · rename_i hlen
    obtain rfl := Option.some.inj hF
    have hl := (reps_enc (E := ⟨m, β, τ⟩) (hr _) xs l).1 hrp
    have hsz := sortL_length cf hO xs
    rcases ho.2 with ⟨rfl, hn⟩ | ⟨b, cap, cur, rfl, _, hh, hnc, hcm, hcs, htk⟩
    · have : xs = [] := List.length_eq_zero_iff.1 hn
      subst this
      have hs0 : sortL cf ([] : List t.den) = [] := List.length_eq_zero_iff.1 (by rw [hsz]; rfl)
      refine (Go.Proofs.AnyF.slices_SortFunc_none L none 0 _ w).mono ?_
      rintro r w' ⟨rfl, rfl⟩
      refine ⟨m, [], rfl, .refl _ _, hi, ?_, ?_⟩
      · rw [hs0]; exact World.ownsRow_nil w' 0 e t.size
      · rw [hs0]; rfl
    · have hb : b < w.heap.size := blk_lt hh
      have hfl : (flatK enc t.size xs.toArray).toList = l := by rw [flatK_list enc t.size hk, hl]
      have hfs : (flatK enc t.size xs.toArray).size = xs.length * t.size := by simp
      have hH : HoldsK enc t.size w b 0 xs.toArray := by
        intro j hj
        have hj' : j < xs.length * t.size := by rw [← hfs]; exact hj
        have hjc : j < cur.size := by rw [hcs]; exact Nat.lt_of_lt_of_le hj' (Nat.mul_le_mul_right _ hnc)
        refine ⟨?_, ?_⟩
        · have h1 := cell_of_row w b (0 + j) cur e (0, 0) hh
          rw [h1, Nat.zero_add]
          have h2 : (cur.toList.take (xs.length * t.size))[j]? = l[j]? := by rw [htk]
          rw [List.getElem?_take, if_pos hj', ← hfl, Array.getElem?_toList, Array.getElem?_toList] at h2
          rw [h2, Array.getElem?_eq_getElem hj, getElem!_pos _ j hj]; rfl
        · simp [World.frozen?, hh]
      have inv_ : ∀ mm dk os, Inv m (Go.Proofs.sortWorldK enc t.size w b 0 mm dk os) := fun mm dk os b' j u hu => by
        have h1 := hi b' j u hu
        have hlt := cell_lt h1
        have hne : b ≠ b' := fun q => by subst q; rw [hm b j rfl] at hu; cases hu
        unfold World.cell? at h1 ⊢
        rw [heap_sortWorldK enc t.size w b mm dk os b' hlt, if_neg hne]; exact h1
      have eg := hg.enter
      have hcmp : Go.Proofs.CmpLays P g #[] enc t.size cf b 0 xs.toArray.size w := by
        intro mm os dk _ x y
        have hcall := hg.calls N (x, (y, ())) (cf x y, ()) (hG x y) m (fun _ => none) (fun _ => none) (Go.Proofs.sortWorldK enc t.size w b 0 mm dk os) [.agg (enc x).toArray, .agg (enc y).toArray] (inv_ mm dk os) hΓ
          ⟨_, _, rfl, ⟨enc x, (hr _ x _).2 rfl, by unfold mkV; rw [if_pos hag]⟩, _, _, rfl, ⟨enc y, (hr _ y _).2 rfl, by unfold mkV; rw [if_pos hag]⟩, rfl⟩
        refine hcall.mono ?_
        rintro r w' ⟨v, m', rfl, hc, _, hs⟩
        refine ⟨by rw [vrep_int hs], w'.drawn - (Go.Proofs.sortWorldK enc t.size w b 0 mm dk os).drawn, w'.heap.extract (Go.Proofs.sortWorldK enc t.size w b 0 mm dk os).heap.size w'.heap.size, ?_⟩
        generalize Go.Proofs.sortWorldK enc t.size w b 0 mm dk os = W at hc
        have hdr := hc.drawn hd
        have hhp : w'.heap = W.heap ++ w'.heap.extract W.heap.size w'.heap.size := by
          apply Array.ext_getElem?
          intro i
          by_cases hi : i < W.heap.size
          · rw [Array.getElem?_append_left hi, hc.heap i hi id]
          · rw [Array.getElem?_append_right (by omega), Array.getElem?_extract]
            have := hc.size
            split
            · congr 1; omega
            · exact Array.getElem?_eq_none (by omega)
        have e1 := hc.os; have e2 := hc.tape; have e3 := hc.output
        cases w' with
        | mk hp tp dn o ot =>
          cases W with
          | mk hp0 tp0 dn0 o0 ot0 =>
            simp only at e1 e2 e3 hhp hdr
            subst e1 e2 e3
            show World.mk hp tp dn o ot = { heap := hp0 ++ hp.extract hp0.size hp.size, tape := tp, drawn := dn0 + (dn - dn0), os := o, output := ot }
            rw [← hhp, show dn0 + (dn - dn0) = dn by omega]
      refine (Go.Proofs.AnyQ.slices_SortFunc_eq L t.size aE zE enc hk h1 cf hO g #[] b 0 cap xs.toArray w eg hcmp hH hb (by simpa using hlen)).mono ?_
      rintro r w' ⟨rfl, nn, os, rfl⟩
      have hps : (pdq (Go.Proofs.ltOf cf) xs.toArray 0 xs.toArray.size (Lib.bitLen xs.toArray.size) true true) = (sortL cf xs).toArray := by simp [sortL]
      rw [hps]
      have hF : (flatK enc t.size (sortL cf xs).toArray).size = xs.length * t.size := by simp [hsz]
      have hblk : (Go.Proofs.sortWorldK enc t.size w b 0 nn (sortL cf xs).toArray os).heap[b]? = some (.cells (putCells id 0 (flatK enc t.size (sortL cf xs).toArray) cur) e (0, 0)) := by
        rw [heap_sortWorldK enc t.size w b nn _ os b hb, if_pos rfl, hh]; rfl
      have hle : (flatK enc t.size (sortL cf xs).toArray).size ≤ cur.size := by rw [hF, hcs]; exact Nat.mul_le_mul_right _ hnc
      refine ⟨m, (flatK enc t.size (sortL cf xs).toArray).toList, rfl, ⟨rfl, rfl, rfl, fun _ => drawn_sortWorldK _ _ _ _ _ _ _, size_sortWorldK _ _ _ _ _ _ _, fun i hi' hx => ?_, fun _ _ => rfl⟩, inv_ _ _ _, ⟨by simp, .inr ⟨b, cap, _, by rw [hsz], Nat.zero_le _, hblk, by rw [hsz]; exact hnc, hcm, by simpa [putCells] using hcs, ?_⟩⟩, ?_⟩
      · rw [heap_sortWorldK enc t.size w b nn _ os i hi', if_neg (fun q => hx (by subst q; rfl))]
      · have h3 := putCells_take cur _ hle
        rw [hF] at h3
        rw [hsz]; exact h3
      · exact (reps_enc (hr _) _ _).2 (flatK_list enc t.size hk _)
  · cases hF
end Go.Proofs.YtadamegddcadcaaGreatDoorPi

set_option maxRecDepth 100000
namespace Go.Proofs
open Go.Shelf
def Tryz.sortLays_ren : Go.Shelf.Ren := ⟨fun | 6 => 89 | 15 => 107 | 14 => 106 | 28 => 121 | 29 => 122 | 20 => 113 | 21 => 114 | 22 => 115 | 23 => 116 | 24 => 117 | 25 => 118 | 26 => 119 | 27 => 120 | 46 => 123 | 47 => 124 | 48 => 125 | 49 => 126 | 50 => 127 | 57 => 128 | n => n, fun | 22 => 111 | 24 => 115 | 25 => 140 | 3 => 3 | 39 => 123 | 0 => 0 | 53 => 147 | 55 => 167 | 4 => 4 | 46 => 160 | 45 => 159 | 50 => 67 | 5 => 5 | 9 => 9 | 66 => 168 | 70 => 172 | 76 => 174 | 77 => 175 | n => n, fun | n => n⟩
theorem Tryz.sortLays : Go.Proofs.SlLaysF0.n6 Tryz.prog Tryz.sortLays_ren := {
  mixed := by kernel_rfl
  f6 := ⟨Tryz.f89.name, by decide, Tryz.func89.trans (congrArg some (by kernel_rfl))⟩
  f14 := ⟨Tryz.f106.name, by decide, Tryz.func106.trans (congrArg some (by kernel_rfl))⟩
  f15 := Tryz.func107.trans (congrArg some (by kernel_rfl))
  f20 := ⟨Tryz.f113.name, by decide, Tryz.func113.trans (congrArg some (by kernel_rfl))⟩
  f21 := ⟨Tryz.f114.name, by decide, Tryz.func114.trans (congrArg some (by kernel_rfl))⟩
  f22 := ⟨Tryz.f115.name, by decide, Tryz.func115.trans (congrArg some (by kernel_rfl))⟩
  f23 := ⟨Tryz.f116.name, by decide, Tryz.func116.trans (congrArg some (by kernel_rfl))⟩
  f24 := ⟨Tryz.f117.name, by decide, Tryz.func117.trans (congrArg some (by kernel_rfl))⟩
  f25 := ⟨Tryz.f118.name, by decide, Tryz.func118.trans (congrArg some (by kernel_rfl))⟩
  f26 := ⟨Tryz.f119.name, by decide, Tryz.func119.trans (congrArg some (by kernel_rfl))⟩
  f27 := ⟨Tryz.f120.name, by decide, Tryz.func120.trans (congrArg some (by kernel_rfl))⟩
  f28 := Tryz.func121.trans (congrArg some (by kernel_rfl))
  f29 := Tryz.func122.trans (congrArg some (by kernel_rfl))
  f46 := ⟨Tryz.f123.name, by decide, Tryz.func123.trans (congrArg some (by kernel_rfl))⟩
  f47 := Tryz.func124.trans (congrArg some (by kernel_rfl))
  f48 := Tryz.func125.trans (congrArg some (by kernel_rfl))
  f49 := ⟨Tryz.f126.name, by decide, Tryz.func126.trans (congrArg some (by kernel_rfl))⟩
  f50 := ⟨Tryz.f127.name, by decide, Tryz.func127.trans (congrArg some (by kernel_rfl))⟩
  f57 := ⟨Tryz.f128.name, by decide, Tryz.func128.trans (congrArg some (by kernel_rfl))⟩
  t0 := Tryz.underlying0
  a0 := Tryz.isAgg0
  z0 := Tryz.sizeOf0
  v0 := Tryz.zeroValue0
  t3 := Tryz.underlying3
  a3 := Tryz.isAgg3
  z3 := Tryz.sizeOf3
  v3 := Tryz.zeroValue3
  t4 := Tryz.underlying4
  a4 := Tryz.isAgg4
  z4 := Tryz.sizeOf4
  v4 := Tryz.zeroValue4
  t5 := Tryz.underlying5
  a5 := Tryz.isAgg5
  z5 := Tryz.sizeOf5
  v5 := Tryz.zeroValue5
  t9 := Tryz.underlying9
  a9 := Tryz.isAgg9
  z9 := Tryz.sizeOf9
  v9 := Tryz.zeroValue9
  t22 := Tryz.underlying111
  a22 := Tryz.isAgg111
  z22 := Tryz.sizeOf111
  v22 := Tryz.zeroValue111
  t25 := Tryz.underlying140
  a25 := Tryz.isAgg140
  z25 := Tryz.sizeOf140
  v25 := Tryz.zeroValue140
  t39 := Tryz.underlying123
  a39 := Tryz.isAgg123
  z39 := Tryz.sizeOf123
  v39 := Tryz.zeroValue123
  t45 := Tryz.underlying159
  a45 := Tryz.isAgg159
  z45 := Tryz.sizeOf159
  v45 := Tryz.zeroValue159
  t46 := Tryz.underlying160
  a46 := Tryz.isAgg160
  z46 := Tryz.sizeOf160
  v46 := Tryz.zeroValue160
  t50 := Tryz.underlying67
  a50 := Tryz.isAgg67
  z50 := Tryz.sizeOf67
  v50 := Tryz.zeroValue67
  t53 := Tryz.underlying147
  a53 := Tryz.isAgg147
  z53 := Tryz.sizeOf147
  v53 := Tryz.zeroValue147
  t55 := Tryz.underlying167
  a55 := Tryz.isAgg167
  z55 := Tryz.sizeOf167
  v55 := Tryz.zeroValue167
  t66 := Tryz.underlying168
  a66 := Tryz.isAgg168
  z66 := Tryz.sizeOf168
  v66 := Tryz.zeroValue168
  t70 := Tryz.underlying172
  a70 := Tryz.isAgg172
  z70 := Tryz.sizeOf172
  v70 := Tryz.zeroValue172
  t76 := Tryz.underlying174
  a76 := Tryz.isAgg174
  z76 := Tryz.sizeOf174
  v76 := Tryz.zeroValue174
  t77 := Tryz.underlying175
  a77 := Tryz.isAgg175
  z77 := Tryz.sizeOf175
  v77 := Tryz.zeroValue175 }

end Go.Proofs
namespace Go.Proofs.YtadamegddcadcaaGreatDoorPi
open Go Go.Sort
instance : Inhabited D_EFire := ⟨(0, 0, 0, 0, ())⟩
def fireEnc (x : D_EFire) : List Value := [.int .i64 x.1, .int .i64 x.2.1, .int .i64 x.2.2.1, .int .i64 x.2.2.2.1]
def cmpI (a b : Int) : Int := if a < b then -1 else if a > b then 1 else 0
def fireCmp (x y : D_EFire) : Int := if cmpI x.2.1 y.2.1 ≠ 0 then cmpI x.2.1 y.2.1 else if cmpI x.2.2.1 y.2.2.1 ≠ 0 then cmpI x.2.2.1 y.2.2.1 else cmpI x.1 y.1
theorem cCompare (n : Nat) (a b : Int) : cmp_Compare_int n (a, (b, ())) = some (cmpI a b, ()) := by
  unfold cmp_Compare_int cmp_Compare_int_px
  simp [cmp_isNaN_int, cmp_isNaN_int_px, cmpI, cb_dec]
  repeat' split
  all_goals rfl
theorem cCompare64 (n : Nat) (a b : Int) : cmp_Compare_int64 n (a, (b, ())) = some (cmpI a b, ()) := by
  unfold cmp_Compare_int64 cmp_Compare_int64_px
  simp [cmp_isNaN_int64, cmp_isNaN_int64_px, cmpI, cb_dec]
  repeat' split
  all_goals rfl
theorem cOr3 (n : Nat) (hn : 10 ≤ n) (a b c : Int) : cmp_Or_int n ((a :: b :: c :: []), ()) = some (if a ≠ 0 then a else if b ≠ 0 then b else c, ()) := by
  obtain ⟨k, rfl⟩ : ∃ k, n = k + 4 := ⟨n - 4, by omega⟩
  have w1 : w64 (0 + 1) = 1 := by decide
  have w2 : w64 (1 + 1) = 2 := by decide
  have w3 : w64 (2 + 1) = 3 := by decide
  unfold cmp_Or_int cmp_Or_int_px cmp_Or_int_s1
  simp only [rounds, cmp_Or_int_s2, cmp_Or_int_p2, cmp_Or_int_s0, cmp_Or_int_p0, List.length_cons, List.length_nil, w1, w2, w3]
  by_cases ha : a = 0 <;> by_cases hb : b = 0 <;> by_cases hc : c = 0 <;> simp [ha, hb, hc, cb_ne]
theorem cOrder (n : Nat) (hn : 10 ≤ n) (x y : D_EFire) : Eorder n (x, (y, ())) = some (fireCmp x y, ()) := by
  unfold Eorder Eorder_px
  simp only [cCompare, cCompare64, cOr3 n hn, Option.bind_some]
  rfl
theorem fireCmp_lt (x y : D_EFire) : Go.Proofs.ltOf fireCmp x y = decide (x.2.1 < y.2.1 ∨ x.2.1 = y.2.1 ∧ (x.2.2.1 < y.2.2.1 ∨ x.2.2.1 = y.2.2.1 ∧ x.1 < y.1)) := by
  unfold Go.Proofs.ltOf fireCmp cmpI
  rw [decide_eq_decide]
  repeat' split
  all_goals omega
theorem fireSWO : SWO (Go.Proofs.ltOf fireCmp) where
  irrefl x := by rw [fireCmp_lt]; simp
  trans x y z h1 h2 := by rw [fireCmp_lt] at *; simp only [decide_eq_true_eq] at *; omega
  ntrans x y z h1 h2 := by rw [fireCmp_lt] at *; simp only [decide_eq_false_iff_not] at *; omega
theorem fire_rep (E : Env) (x : T_EFire.den) (cs : List Value) : rep E T_EFire x cs ↔ cs = fireEnc x := by
  obtain ⟨a, b, c, d, u⟩ := x
  constructor
  · rintro ⟨c1, c2, rfl, h1, c3, c4, rfl, h2, c5, c6, rfl, h3, c7, c8, rfl, h4, h5⟩
    rw [show c1 = _ from h1, show c3 = _ from h2, show c5 = _ from h3, show c7 = _ from h4, show c8 = _ from h5]; rfl
  · rintro rfl
    exact ⟨[_], [_, _, _], rfl, rfl, [_], [_, _], rfl, rfl, [_], [_], rfl, rfl, [_], [], rfl, rfl, rfl⟩
def sortFireF (_n : Nat) (xs : List D_EFire) (_y : (Ty.pair (.fn 88 0 .unit) .unit).den) : Option (List D_EFire) := if xs.length < 4611686018427387904 then some (sortL fireCmp xs) else none
def sortFireS : SpI := ⟨115, T_EFire, .pair (.fn 88 0 .unit) .unit, sortFireF⟩
theorem sortFire_ok : SoundX Tryz.prog CX 89 (.i sortFireS) :=
  @sort_sound Tryz.prog CX Tryz.sortLays_ren T_EFire instInhabitedD_EFire 115 rfl Tryz.sortLays Tryz.isAgg115 Tryz.sizeOf115 fireEnc (fun _ => rfl) (fun x v hv => by simp [fireEnc] at hv; rcases hv with rfl | rfl | rfl | rfl <;> rfl) rfl fire_rep fireCmp fireSWO 88 .unit Eorder Eorder_ok 10 (fun x y => cOrder 10 (by omega) x y)
    (enters_of Tryz.func89 (by kernel_rfl) rfl)
end Go.Proofs.YtadamegddcadcaaGreatDoorPi
