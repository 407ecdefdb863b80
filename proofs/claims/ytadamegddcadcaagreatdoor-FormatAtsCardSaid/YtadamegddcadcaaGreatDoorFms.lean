import Derived.Test.YtadamegddcadcaaGreatDoorFnF
import Derived.Test.YtadamegddcadcaaGreatDoorSort
import Derived.KernelRfl
import Derived.Test.YtadamegddcadcaaGreatDoorAt
set_option linter.unusedVariables false
namespace Go.Proofs.YtadamegddcadcaaGreatDoorPi
open Go Go.Proofs Go.RowKit
set_option maxRecDepth 100000
set_option maxHeartbeats 1000000
set_option linter.unusedVariables false

theorem w8_id {x : Int} (h0 : 0 ≤ x) (h1 : x < 256) : w8 x = x := by
  show IntKind.wrap .u8 x = x
  unfold IntKind.wrap
  have e1 : IntKind.signed .u8 = false := rfl
  have e2 : IntKind.bits .u8 = 8 := rfl
  simp only [e1, e2, Bool.false_and, Bool.false_eq_true, if_false]
  omega

def lowr (e : Int) : Int := w8 (((BitVec.ofInt (IntKind.bits .u8) e) ||| (BitVec.ofInt (IntKind.bits .u8) (32 : Int))).toNat : Int)
def okc (e : Int) : Bool := (decide (97 ≤ lowr e) && (decide (lowr e ≤ 122) && decide (e < 128))) || ((decide (48 ≤ e) && decide (e ≤ 57)) || ((e == 43) || (e == 45)))

theorem plain_step {n : Nat} {k0 : FoPlain_t0 → FoPlain_R} {r2 : FoPlain_t2 → FoPlain_R} {s : ByteArray} {bs : List Int} {i : Nat} {e : Int} (hi : bs[i]? = some e) (hb : bs.length < 1000000000000) :
    FoPlain_s2 n k0 r2 (s, bs, (bs.length : Int), (i : Int)) = bif okc e then r2 (s, bs, (bs.length : Int), ((i + 1 : Nat) : Int)) else some (false, ()) := by
  have hlt : i < bs.length := (List.getElem?_eq_some_iff.1 hi).1
  have h1 : decide ((i : Int) < (bs.length : Int)) = true := by simp; omega
  have h2 : decide (0 ≤ (i : Int)) = true := by simp
  have h3 : w64 ((i : Int) + 1) = ((i + 1 : Nat) : Int) := by rw [w64_id (by omega) (by omega)]; rfl
  simp only [FoPlain_s2, FoPlain_p2, FoPlain_s3, FoPlain_p3, FoPlain_s4, FoPlain_p4, FoPlain_s5, FoPlain_p5]
  rw [h1, h2, cond_true, cond_true, Int.toNat_natCast, hi, Option.bind_some, h3]
  unfold okc lowr
  generalize decide (97 ≤ w8 _) = c1
  generalize decide (w8 _ ≤ 122) = c2
  generalize decide (e < 128) = c3
  generalize decide (48 ≤ e) = c4
  generalize decide (e ≤ 57) = c5
  generalize (e == 43) = c6
  generalize (e == 45) = c7
  cases c1 <;> cases c2 <;> cases c3 <;> cases c4 <;> cases c5 <;> cases c6 <;> cases c7 <;> rfl

theorem plain_fin (n : Nat) (s : ByteArray) : FoPlain_s0 n s = some (decide (3 ≤ s.size ∧ s.size ≤ 6), ()) := by
  simp only [FoPlain_s0, FoPlain_p0]
  by_cases h3 : 3 ≤ s.size
  · have : decide ((s.size : Int) ≥ 3) = true := by simp; omega
    rw [this, cond_true]
    congr 2
    apply decide_eq_decide.2
    omega
  · have : decide ((s.size : Int) ≥ 3) = false := by simp; omega
    rw [this, cond_false]
    congr 2
    symm
    simp; omega

theorem plain_end {n : Nat} {k0 : FoPlain_t0 → FoPlain_R} {r2 : FoPlain_t2 → FoPlain_R} {s : ByteArray} {bs : List Int} {i : Nat} (hi : bs.length ≤ i) :
    FoPlain_s2 n k0 r2 (s, bs, (bs.length : Int), (i : Int)) = k0 s := by
  have h1 : decide ((i : Int) < (bs.length : Int)) = false := by simp; omega
  simp only [FoPlain_s2, FoPlain_p2]
  rw [h1, cond_false]

def plainB (s : ByteArray) : Bool := (bytesOf s).all okc && decide (3 ≤ s.size ∧ s.size ≤ 6)

theorem plain_loop {n : Nat} {s : ByteArray} {bs : List Int} (hb : bs.length < 1000000000000) : ∀ (k : Nat) (i : Nat), i ≤ bs.length → bs.length < k + i →
    rounds (fun r2 x' => FoPlain_s2 n (FoPlain_s0 n) r2 x') k (s, bs, (bs.length : Int), (i : Int)) = some ((bs.drop i).all okc && decide (3 ≤ s.size ∧ s.size ≤ 6), ())
  | 0, i, h0, h => by omega
  | k + 1, i, h0, h => by
    show FoPlain_s2 n (FoPlain_s0 n) (rounds (fun r2 x' => FoPlain_s2 n (FoPlain_s0 n) r2 x') k) (s, bs, (bs.length : Int), (i : Int)) = _
    by_cases hi : i < bs.length
    · rw [plain_step (List.getElem?_eq_getElem hi) hb, plain_loop hb k (i + 1) (by omega) (by omega)]
      rw [List.drop_eq_getElem_cons hi, List.all_cons]
      cases okc bs[i] <;> rfl
    · rw [plain_end (by omega), plain_fin, List.drop_eq_nil_of_le (by omega)]
      rfl

theorem plain_val {n : Nat} {s : ByteArray} (hs : s.size < n) (hb : s.size < 1000000000000) : FoPlain n (s, ()) = some (plainB s, ()) := by
  have hl := bytesOf_length s
  show rounds (fun r2 x' => FoPlain_s2 n (FoPlain_s0 n) r2 x') n (s, bytesOf s, ((bytesOf s).length : Int), ((0 : Nat) : Int)) = _
  rw [plain_loop (by omega) n 0 (by omega) (by omega)]
  rfl
theorem ofBytes_size (xs : List Int) : (ofBytes xs).size = xs.length := by
  show (ofBytes xs).data.size = _
  simp [ofBytes]
theorem ofBytes_get (xs : List Int) (i : Nat) : (ofBytes xs)[i]? = (xs[i]?).map fun x => UInt8.ofNat x.toNat := by
  by_cases h : i < xs.length
  · have h' : i < (ofBytes xs).size := by rw [ofBytes_size]; exact h
    rw [getElem?_pos (ofBytes xs) i h', List.getElem?_eq_getElem h]
    simp only [Option.map_some, Option.some.injEq]
    show (ofBytes xs).data[i] = _
    simp [ofBytes]
  · have h' : ¬ i < (ofBytes xs).size := by rw [ofBytes_size]; exact h
    rw [getElem?_neg (ofBytes xs) i h', List.getElem?_eq_none (by omega)]; rfl
theorem byte_back {x : Int} (h0 : 0 ≤ x) (h1 : x < 256) : ((UInt8.ofNat x.toNat).toNat : Int) = x := by
  rw [UInt8.toNat_ofNat']; omega
theorem bytesOf_ofBytes (xs : List Int) (h : ∀ x ∈ xs, 0 ≤ x ∧ x < 256) : bytesOf (ofBytes xs) = xs := by
  unfold bytesOf ofBytes
  simp only [List.map_map]
  rw [show xs = xs.map id by simp]
  simp only [List.map_id]
  apply List.ext_getElem?
  intro i
  simp only [List.getElem?_map]
  cases hx : xs[i]? with
  | none => rfl
  | some x =>
    have := h x (List.mem_of_getElem? hx)
    simp only [Option.map_some, Function.comp, byte_back this.1 this.2]

theorem digit_ok {e : Int} (h0 : 48 ≤ e) (h1 : e ≤ 57) : okc e = true := by
  unfold okc
  have a : decide (48 ≤ e) = true := by simpa using h0
  have b : decide (e ≤ 57) = true := by simpa using h1
  rw [a, b]; simp
theorem sign_ok {s : Int} (hs : s = 43 ∨ s = 45) : okc s = true := by
  rcases hs with rfl | rfl
  · kernel_rfl
  · kernel_rfl

theorem digL_ok {s m : Int} (hs : s = 43 ∨ s = 45) (h0 : 0 ≤ m) (h1 : m ≤ 180000) : (digL s m).all okc = true := by
  have a : ∀ p : Int, 0 ≤ p → p ≤ 99 → (two2 p).all okc = true := fun p q r => by
    unfold two2
    simp only [List.all_cons, List.all_nil, Bool.and_true, Bool.and_eq_true]
    exact ⟨digit_ok (by omega) (by omega), digit_ok (by omega) (by omega)⟩
  unfold digL
  rw [List.all_cons, sign_ok hs, List.all_append, a _ (by omega) (by omega), List.all_append]
  split
  · rw [a _ (by omega) (by omega)]
    split
    · rw [a _ (by omega) (by omega)]; rfl
    · rfl
  · split
    · rw [a _ (by omega) (by omega)]; rfl
    · rfl

/-- A string's bytes. -/
abbrev dl (s : ByteArray) : List UInt8 := s.data.toList
theorem dl_length (s : ByteArray) : (dl s).length = s.size := by show s.data.toList.length = _; rw [Array.length_toList]; rfl
theorem dl_ext {s t : ByteArray} (h : dl s = dl t) : s = t := by
  cases s; cases t; congr 1; exact Array.ext' h
theorem dl_bs (l : List UInt8) : dl (bs l) = l := by simp [dl, bs]
theorem dl_append (s t : ByteArray) : dl (s ++ t) = dl s ++ dl t := by simp [dl]
theorem dl_extract (s : ByteArray) (i j : Nat) : dl (s.extract i j) = ((dl s).drop i).take (j - i) := by
  simp [dl, ByteArray.data_extract, Array.toList_extract, List.extract]
theorem size_append (s t : ByteArray) : (s ++ t).size = s.size + t.size := by rw [← dl_length, ← dl_length, ← dl_length, dl_append, List.length_append]
theorem toList_dl (s : ByteArray) : s.toList = dl s := by simp [ByteArray.toList_eq]

/-- An instance begins here, or the search goes on. -/
theorem index_drop_hit {l t : List UInt8} {i : Nat} (h : t.isPrefixOf (l.drop i) = true) : Lib.index (l.drop i) t = 0 := by
  cases hd : l.drop i with
  | nil =>
    rw [hd] at h
    unfold Lib.index
    have : t = [] := by cases t with
      | nil => rfl
      | cons a b => simp at h
    rw [this]; rfl
  | cons b r => rw [hd] at h; unfold Lib.index; rw [if_pos h]
theorem index_drop_miss {l t : List UInt8} {i : Nat} (hi : i < l.length) (h : t.isPrefixOf (l.drop i) = false) : Lib.index (l.drop i) t = if Lib.index (l.drop (i + 1)) t = -1 then -1 else Lib.index (l.drop (i + 1)) t + 1 := by
  rw [List.drop_eq_getElem_cons hi] at h ⊢
  rw [Lib.index, if_neg (by rw [h]; simp)]
  by_cases e : Lib.index (l.drop (i + 1)) t = -1
  · simp [e]
  · simp [e]
theorem index_short {l t : List UInt8} (h : l.length < t.length) : Lib.index l t = -1 := by
  have h1 := Lib.index_ge l t
  by_cases h2 : 0 ≤ Lib.index l t
  · have := Lib.index_room l t h2; omega
  · omega

theorem find_loop {n : Nat} {s t : ByteArray} (ht : 1 ≤ t.size) (hs : s.size ≤ 1000) (hts : t.size ≤ 1000) : ∀ (k i : Nat), i ≤ s.size → s.size < k + i →
    rounds (fun r2 x' => A6find_s2 n (A6find_s0 n) r2 x') k (s, t, (i : Int)) = some ((if Lib.index ((dl s).drop i) (dl t) = -1 then (-1 : Int) else i + Lib.index ((dl s).drop i) (dl t)), ())
  | 0, i, h0, h => by omega
  | k + 1, i, h0, h => by
    show A6find_s2 n (A6find_s0 n) (rounds (fun r2 x' => A6find_s2 n (A6find_s0 n) r2 x') k) (s, t, (i : Int)) = _
    have l1 := dl_length s
    have l2 := dl_length t
    have w1 : w64 ((i : Int) + (t.size : Int)) = ((i + t.size : Nat) : Int) := by rw [w64_id (by omega) (by omega)]; rfl
    have w2 : w64 ((i : Int) + 1) = ((i + 1 : Nat) : Int) := by rw [w64_id (by omega) (by omega)]; rfl
    have ih := fun (h1 : i + 1 ≤ s.size) => find_loop (n := n) ht hs hts k (i + 1) h1 (by omega)
    revert ih
    generalize rounds (fun r2 x' => A6find_s2 n (A6find_s0 n) r2 x') k = rc
    intro ih
    simp only [A6find_s2, A6find_p2]
    rw [w1]
    by_cases hr : i + t.size ≤ s.size
    · have b1 : decide (((i + t.size : Nat) : Int) ≤ (s.size : Int)) = true := by simp; omega
      have b2 : decide (0 ≤ ((i + t.size : Nat) : Int) ∧ ((i + t.size : Nat) : Int) ≤ ((s.size : Nat) : Int)) = true := by simp only [decide_eq_true_eq]; omega
      have b3 : decide (0 ≤ (i : Int) ∧ (i : Int) ≤ ((Int.toNat ((i + t.size : Nat) : Int) : Nat) : Int)) = true := by simp only [decide_eq_true_eq]; omega
      rw [b1, b2, b3, cond_true, cond_true, cond_true, Int.toNat_natCast, Int.toNat_natCast, w2, toList_dl, toList_dl, dl_extract]
      have e : ((dl s).drop i).take (i + t.size - i) = ((dl s).drop i).take (dl t).length := by rw [l2]; congr 1; omega
      rw [e]
      have hp : ((((dl s).drop i).take (dl t).length == dl t) : Bool) = (dl t).isPrefixOf ((dl s).drop i) := by
        rw [Bool.eq_iff_iff, beq_iff_eq, List.isPrefixOf_iff_prefix, List.prefix_iff_eq_take]
        exact eq_comm
      rw [hp]
      cases hq : (dl t).isPrefixOf ((dl s).drop i) with
      | true =>
        rw [cond_true, index_drop_hit hq]
        simp
      | false =>
        rw [cond_false, ih (by omega), index_drop_miss (by omega) hq]
        have hge := Lib.index_ge ((dl s).drop (i + 1)) (dl t)
        congr 2
        split
        · simp
        · rw [if_neg (by omega)]; omega
    · have b1 : decide (((i + t.size : Nat) : Int) ≤ (s.size : Int)) = false := by simp; omega
      rw [b1, cond_false, index_short (by rw [List.length_drop]; omega)]
      rfl

theorem find_val {s t : ByteArray} {n : Nat} (ht : 1 ≤ t.size) (hs : s.size ≤ 1000) (hts : t.size ≤ 1000) (hn : s.size < n) : A6find n (s, (t, ())) = some (Lib.index (dl s) (dl t), ()) := by
  show rounds (fun r2 x' => A6find_s2 n (A6find_s0 n) r2 x') n (s, t, ((0 : Nat) : Int)) = _
  rw [find_loop ht hs hts n 0 (by omega) (by omega), List.drop_zero]
  congr 2
  split
  · rename_i h; exact h.symm
  · simp

/-! the reference's Plain -/
def okr (c : Int) : Bool := (decide (c ≥ 97) && decide (c ≤ 122)) || ((decide (c ≥ 65) && decide (c ≤ 90)) || ((decide (c ≥ 48) && decide (c ≤ 57)) || ((c == 43) || (c == 45))))
theorem okr_all : ((List.range 256).all fun n => okc (n : Int) == okr (n : Int)) = true := by kernel_rfl
theorem okr_eq (c : UInt8) : okr (c.toNat : Int) = okc (c.toNat : Int) := by
  have h := List.all_eq_true.1 okr_all c.toNat (List.mem_range.2 c.toNat_lt)
  exact (beq_iff_eq.1 h).symm

theorem bytesOf_get {s : ByteArray} {i : Nat} (h : i < s.size) : ∃ c, s[i]? = some c ∧ (bytesOf s)[i]? = some (c.toNat : Int) := by
  refine ⟨s[i], getElem?_pos s i h, ?_⟩
  unfold bytesOf
  have h' : i < s.data.toList.length := by rw [Array.length_toList]; exact h
  rw [List.getElem?_map, List.getElem?_eq_getElem h']
  simp only [Option.map_some, Array.getElem_toList]
  rfl

theorem rp_step {n : Nat} {k0 : A6Plain_t0 → A6Plain_R} {r2 : A6Plain_t2 → A6Plain_R} {s : ByteArray} {i : Nat} {c : UInt8} (hi : i < s.size) (hc : s[i]? = some c) (hb : s.size < 1000000) :
    A6Plain_s2 n k0 r2 (s, (i : Int)) = bif okc (c.toNat : Int) then r2 (s, ((i + 1 : Nat) : Int)) else some (false, ()) := by
  have h1 : decide ((i : Int) < (s.size : Int)) = true := by simp; omega
  have h2 : decide (0 ≤ (i : Int)) = true := by simp
  have h3 : w64 ((i : Int) + 1) = ((i + 1 : Nat) : Int) := by rw [w64_id (by omega) (by omega)]; rfl
  rw [← okr_eq]
  simp only [A6Plain_s2, A6Plain_p2, A6Plain_s4, A6Plain_p4, A6Plain_s3, A6Plain_p3]
  rw [h1, h2, cond_true, cond_true, Int.toNat_natCast, hc, Option.bind_some, h3]
  unfold okr
  generalize decide ((c.toNat : Int) ≥ 97) = c1
  generalize decide ((c.toNat : Int) ≤ 122) = c2
  generalize decide ((c.toNat : Int) ≥ 65) = c3
  generalize decide ((c.toNat : Int) ≤ 90) = c4
  generalize decide ((c.toNat : Int) ≥ 48) = c5
  generalize decide ((c.toNat : Int) ≤ 57) = c6
  generalize ((c.toNat : Int) == 43) = c7
  generalize ((c.toNat : Int) == 45) = c8
  cases c1 <;> cases c2 <;> cases c3 <;> cases c4 <;> cases c5 <;> cases c6 <;> cases c7 <;> cases c8 <;> rfl
theorem rp_end {n : Nat} {k0 : A6Plain_t0 → A6Plain_R} {r2 : A6Plain_t2 → A6Plain_R} {s : ByteArray} {i : Nat} (hi : s.size ≤ i) : A6Plain_s2 n k0 r2 (s, (i : Int)) = k0 () := by
  have h1 : decide ((i : Int) < (s.size : Int)) = false := by simp; omega
  simp only [A6Plain_s2, A6Plain_p2]
  rw [h1, cond_false]
theorem rp_loop {n : Nat} {s : ByteArray} (hb : s.size < 1000000) : ∀ (k i : Nat), i ≤ s.size → s.size < k + i →
    rounds (fun r2 x' => A6Plain_s2 n (A6Plain_s0 n) r2 x') k (s, (i : Int)) = some (((bytesOf s).drop i).all okc, ())
  | 0, i, h0, h => by omega
  | k + 1, i, h0, h => by
    show A6Plain_s2 n (A6Plain_s0 n) (rounds (fun r2 x' => A6Plain_s2 n (A6Plain_s0 n) r2 x') k) (s, (i : Int)) = _
    have hl := bytesOf_length s
    by_cases hi : i < s.size
    · obtain ⟨c, hc, hbc⟩ := bytesOf_get hi
      rw [rp_step hi hc hb, rp_loop hb k (i + 1) (by omega) (by omega)]
      have hlt : i < (bytesOf s).length := by omega
      rw [List.drop_eq_getElem_cons hlt, List.all_cons]
      have e : (bytesOf s)[i] = (c.toNat : Int) := by
        rw [List.getElem?_eq_getElem hlt] at hbc; exact Option.some.inj hbc
      rw [e]
      cases okc (c.toNat : Int) <;> rfl
    · rw [rp_end (by omega), List.drop_eq_nil_of_le (by omega)]; rfl
theorem rp_s1 {n : Nat} {s : ByteArray} (hn : s.size < n) (hb : s.size < 1000000) : A6Plain_s1 n (A6Plain_s0 n) (s, (0 : Int)) = some ((bytesOf s).all okc, ()) := by
  have h := rp_loop (n := n) hb n 0 (by omega) (by omega)
  rw [List.drop_zero] at h
  exact h
theorem rp_val {n : Nat} {s : ByteArray} (hn : s.size < n) (hb : s.size < 1000000) : A6Plain n (s, ()) = some (plainB s, ()) := by
  have h1 := rp_s1 hn hb
  show A6Plain_px n (A6Plain_s0 n) (A6Plain_s1 n (A6Plain_s0 n)) (s, ()) = _
  revert h1
  generalize A6Plain_s1 n (A6Plain_s0 n) = k1
  generalize A6Plain_s0 n = k0
  intro h1
  unfold plainB
  have e : A6Plain_px n k0 k1 (s, ()) = bif decide ((s.size : Int) < 3) then some (false, ()) else bif decide ((s.size : Int) > 6) then some (false, ()) else k1 (s, (0 : Int)) := rfl
  rw [e, h1]
  by_cases h3 : s.size < 3
  · have a : decide ((s.size : Int) < 3) = true := by simp; omega
    have b : decide (3 ≤ s.size ∧ s.size ≤ 6) = false := by simp; omega
    rw [a, b, cond_true, Bool.and_false]
  · have a : decide ((s.size : Int) < 3) = false := by simp; omega
    rw [a, cond_false]
    by_cases h6 : s.size > 6
    · have a : decide ((s.size : Int) > 6) = true := by simp; omega
      have b : decide (3 ≤ s.size ∧ s.size ≤ 6) = false := by simp; omega
      rw [a, b, cond_true, Bool.and_false]
    · have a : decide ((s.size : Int) > 6) = false := by simp; omega
      have b : decide (3 ≤ s.size ∧ s.size ≤ 6) = true := by simp; omega
      rw [a, b, cond_false, Bool.and_true]

/-! the reference's Digits -/
theorem i64max_ : IntKind.i64.max = 9223372036854775807 := by kernel_rfl
theorem ofBytes_append (xs ys : List Int) : ofBytes xs ++ ofBytes ys = ofBytes (xs ++ ys) := by
  apply dl_ext; rw [dl_append]; simp [dl, ofBytes]
theorem two_val {n : Nat} {p : Int} (h0 : 0 ≤ p) (h1 : p ≤ 99) : A6two n (p, ()) = some (ofBytes (two2 p), ()) := by
  simp only [A6two, A6two_px]
  have e1 : Int.tdiv p 10 = p / 10 := Int.tdiv_eq_ediv_of_nonneg h0
  have e2 : Int.tmod p 10 = p % 10 := Int.tmod_eq_emod_of_nonneg h0
  have e3 : Int.tmod (p / 10) 10 = p / 10 := by rw [Int.tmod_eq_emod_of_nonneg (by omega)]; omega
  rw [e1, e2, w64_id (x := p / 10) (by omega) (by omega), e3, w64_id (x := 48 + p / 10) (by omega) (by omega), w64_id (x := 48 + p % 10) (by omega) (by omega), w8_id (by omega) (by omega), w8_id (by omega) (by omega)]
  rfl
theorem two_size (p : Int) : (ofBytes (two2 p)).size = 2 := by rw [ofBytes_size]; rfl

theorem digits_tail {n : Nat} {m s : Int} (h0 : 0 ≤ m) (h1 : m ≤ 180000) : A6Digits_s0 n (m, ofBytes [s]) = some (ofBytes (digL s m), ()) := by
  have e1 : Int.tdiv m 3600 = m / 3600 := Int.tdiv_eq_ediv_of_nonneg h0
  have e2 : Int.tdiv m 60 = m / 60 := Int.tdiv_eq_ediv_of_nonneg h0
  have e3 : Int.tmod m 3600 = m % 3600 := Int.tmod_eq_emod_of_nonneg h0
  have e4 : Int.tmod m 60 = m % 60 := Int.tmod_eq_emod_of_nonneg h0
  have e5 : Int.tmod (m / 60) 60 = m / 60 % 60 := Int.tmod_eq_emod_of_nonneg (by omega)
  have z1 : (ofBytes [s]).size = 1 := by rw [ofBytes_size]; rfl
  have no : ∀ a b : Nat, a ≤ 10 → b ≤ 10 → decide (((a + b : Nat) : Int) > IntKind.i64.max) = false := fun a b ha hb => by
    rw [i64max]; simp only [decide_eq_false_iff_not]; omega
  simp only [A6Digits_s0, A6Digits_p0, A6Digits_s1, A6Digits_p1, A6Digits_s2, A6Digits_p2]
  rw [e1, e2, e3, e4, w64_id (x := m / 3600) (by omega) (by omega), w64_id (x := m / 60) (by omega) (by omega), e5]
  rw [two_val (p := m / 3600) (by omega) (by omega), Option.bind_some, no _ _ (by rw [z1]; omega) (by rw [two_size]; omega), cond_false, ofBytes_append]
  have z2 : (ofBytes ([s] ++ two2 (m / 3600))).size = 3 := by rw [ofBytes_size]; rfl
  unfold digL
  by_cases h36 : m % 3600 = 0
  · have h6 : m % 60 = 0 := by omega
    rw [if_neg (by omega), if_neg (by omega), show (m % 3600 != 0) = false by simpa using h36, cond_false, show (m % 60 != 0) = false by simpa using h6, cond_false]
    simp
  · rw [if_pos h36, show (m % 3600 != 0) = true by simpa using h36, cond_true, two_val (p := m / 60 % 60) (by omega) (by omega), Option.bind_some, no _ _ (by rw [z2]; omega) (by rw [two_size]; omega), cond_false, ofBytes_append]
    have z3 : (ofBytes ([s] ++ two2 (m / 3600) ++ two2 (m / 60 % 60))).size = 5 := by rw [ofBytes_size]; rfl
    by_cases h6 : m % 60 = 0
    · rw [if_neg (by omega), show (m % 60 != 0) = false by simpa using h6, cond_false]
      simp
    · rw [if_pos h6, show (m % 60 != 0) = true by simpa using h6, cond_true, two_val (p := m % 60) (by omega) (by omega), Option.bind_some, no _ _ (by rw [z3]; omega) (by rw [two_size]; omega), cond_false, ofBytes_append]
      simp

theorem sg_p : (⟨#[43]⟩ : ByteArray) = ofBytes [43] := by kernel_rfl
theorem sg_m : (⟨#[45]⟩ : ByteArray) = ofBytes [45] := by kernel_rfl
theorem rdigits_val {n : Nat} {x : Int} (h0 : -180000 ≤ x) (h1 : x ≤ 180000) : ∃ d, A6Digits n (x, ()) = some (d, ()) ∧ digitsF n (x, ()) = some (d, ()) ∧ d.size ≤ 7 := by
  have l7 : ∀ s m, (digL s m).length ≤ 7 := fun s m => by
    unfold digL two2; simp only [List.length_cons, List.length_append]
    split <;> split <;> simp
  have e : A6Digits n (x, ()) = bif decide (x < 0) then A6Digits_s0 n (w64 (0 - x), (⟨#[45]⟩ : ByteArray)) else A6Digits_s0 n (x, (⟨#[43]⟩ : ByteArray)) := rfl
  rw [e, sg_p, sg_m]
  by_cases hx : x < 0
  · have b : decide (x < 0) = true := by simpa using hx
    have w : w64 (0 - x) = -x := by rw [w64_id (by omega) (by omega)]; omega
    rw [b, cond_true, w, digits_tail (m := -x) (s := 45) (by omega) (by omega)]
    refine ⟨ofBytes (digL 45 (-x)), rfl, ?_, by rw [ofBytes_size]; exact l7 _ _⟩
    unfold digitsF
    rw [if_neg (by intro h; exact absurd h.1 (by show ¬ (0 ≤ x); omega)), if_pos ⟨by show -180000 ≤ x; omega, by show x < 0; omega⟩]
  · have b : decide (x < 0) = false := by simpa using hx
    rw [b, cond_false, digits_tail (m := x) (s := 43) (by omega) (by omega)]
    refine ⟨ofBytes (digL 43 x), rfl, ?_, by rw [ofBytes_size]; exact l7 _ _⟩
    unfold digitsF
    rw [if_pos ⟨by show 0 ≤ x; omega, by show x ≤ 180000; omega⟩]

theorem replace_one {s old new : List UInt8} {i : Nat} (hne : old ≠ []) (h : Lib.index s old = i) : Lib.replace s old new 1 = s.take i ++ new ++ s.drop (i + old.length) := by
  unfold Lib.replace
  by_cases e : old = new
  · rw [if_pos (by rw [e]; exact beq_self_eq_true _), ← e]
    have hs := Lib.index_spec s old
    have hr := Lib.index_room s old (by omega)
    have hoc : Lib.occAt s old i = true := by
      rcases hs with ⟨h1, _⟩ | ⟨j, h1, _, h3, _⟩
      · omega
      · have : j = i := by omega
        rw [← this]; exact h3
    rw [Lib.occAt_iff_take s old i (by omega)] at hoc
    have ho := beq_iff_eq.1 hoc
    conv => lhs; rw [← List.take_append_drop i s, ← List.take_append_drop old.length (s.drop i), ho, List.drop_drop]
    rw [List.append_assoc]
  · rw [if_neg (by simpa using e)]
    have hc := Lib.count_hit hne h
    have hn : Lib.replaceNum s old 1 = 1 := by unfold Lib.replaceNum; rw [if_neg (by omega)]; rfl
    rw [hn, Lib.replaceK_hit old new 0 s i h]
    rfl

abbrev finA (d : ByteArray) : Option (ByteArray × (Int × Unit)) := bif !plainB d then some ((⟨#[]⟩ : ByteArray), ((15 : Int), ())) else some (d, ((0 : Int), ()))
theorem fin6 {n : Nat} {d : ByteArray} (h : d.size < n) (hb : d.size < 1000000) : FoAbbr_s0 n d = finA d := by
  have e : FoAbbr_s0 n d = (FoPlain n (d, ())).bind fun r7 => bif (!r7.1) then some ((⟨#[]⟩ : ByteArray), ((15 : Int), ())) else some (d, ((0 : Int), ())) := rfl
  rw [e, plain_val h (by omega), Option.bind_some]
theorem fin19 {n : Nat} {d : ByteArray} (h : d.size < n) (hb : d.size < 1000000) : A6Abbr_s0 n d = finA d := by
  have e : A6Abbr_s0 n d = (A6Plain n (d, ())).bind fun r7 => bif (!r7.1) then some ((⟨#[]⟩ : ByteArray), ((15 : Int), ())) else some (d, ((0 : Int), ())) := rfl
  rw [e, rp_val h hb, Option.bind_some]

theorem nomax {a b : Nat} (ha : a ≤ 10000) (hb : b ≤ 10000) : decide (((a + b : Nat) : Int) > IntKind.i64.max) = false := by
  rw [i64max]; simp only [decide_eq_false_iff_not]; omega

theorem dl_37_115 : dl (⟨#[37, 115]⟩ : ByteArray) = [37, 115] := by kernel_rfl
/-- A piece is replaced by another one. -/
theorem rep_eq {s o l : ByteArray} {i : Nat} (ho : 1 ≤ o.size) (h : Lib.index (dl s) (dl o) = i) : bs (Lib.replace (dl s) (dl o) (dl l) 1) = s.extract 0 i ++ l ++ s.extract (i + o.size) s.size := by
  apply dl_ext
  rw [dl_bs, replace_one (i := i) (by intro e; have := dl_length o; rw [e] at this; simp at this; omega) h, dl_append, dl_append, dl_extract, dl_extract, List.drop_zero, Nat.sub_zero]
  congr 1
  have h1 := dl_length s
  have h2 := dl_length o
  rw [h2]
  symm
  apply List.take_of_length_le
  rw [List.length_drop]; omega
theorem ext_size {s : ByteArray} {i j : Nat} : (s.extract i j).size ≤ s.size := by
  have := dl_length (s.extract i j)
  rw [dl_extract, List.length_take, List.length_drop, dl_length] at this
  omega
theorem rep_size {s o l : ByteArray} {i : Nat} (hi : i ≤ s.size) : (s.extract 0 i ++ l ++ s.extract (i + o.size) s.size).size ≤ s.size + l.size := by
  rw [size_append, size_append]
  have a := dl_length (s.extract 0 i)
  have b := dl_length (s.extract (i + o.size) s.size)
  rw [dl_extract, List.length_take, List.length_drop, dl_length] at a b
  omega
theorem count_le1 (s o : ByteArray) : Lib.countB s o ≤ s.size + 1 := by
  have := Lib.count_le s.data.toList o.data.toList
  have h := dl_length s
  show Lib.count _ _ ≤ _
  unfold dl at h
  omega
theorem replaceF_val {n : Nat} {s o l : ByteArray} {i : Nat} (hs : s.size ≤ 200) (hl : l.size ≤ 200) (ho : 1 ≤ o.size) (h : Lib.index (dl s) (dl o) = i) :
    replaceF n (s, (o, (l, ((1 : Int), ())))) = some (s.extract 0 i ++ l ++ s.extract (i + o.size) s.size, ()) := by
  unfold replaceF
  have hc := count_le1 s o
  have hm : Lib.countB s o * l.size ≤ 201 * 200 := Nat.mul_le_mul (by omega) hl
  have c1 : s.size < 4294967281 := by omega
  have c2 : s.size + Lib.countB s o * l.size ≤ 140737488355328 := by omega
  rw [if_pos ⟨c1, ho, c2⟩]
  show some (bs (Lib.replace (dl s) (dl o) (dl l) 1), ()) = _
  rw [rep_eq ho h]
theorem containsF_val {n : Nat} {s o : ByteArray} (hs : s.size ≤ 200) : containsF n (s, (o, ())) = some (decide (0 ≤ Lib.index (dl s) (dl o)), ()) := by
  unfold containsF
  have c1 : s.size < 4294967281 := by omega
  rw [if_pos c1]
  rfl
theorem cutF_val {n : Nat} {s o : ByteArray} (hs : s.size ≤ 200) : cutF n (s, (o, ())) = some (bs (Lib.cut (dl s) (dl o)).1, (bs (Lib.cut (dl s) (dl o)).2.1, ((Lib.cut (dl s) (dl o)).2.2, ()))) := by
  unfold cutF
  have c1 : s.size < 4294967281 := by omega
  rw [if_pos c1]
theorem bs_dl (s : ByteArray) : bs (dl s) = s := dl_ext (dl_bs _)

abbrev pS : ByteArray := ⟨#[37, 115]⟩
abbrev pZ : ByteArray := ⟨#[37, 122]⟩
abbrev pC : ByteArray := ⟨#[47]⟩

/-- The document's answer and the program's are one. -/
theorem abbr_eq {f l : ByteArray} {off : Int} {dst : Bool} (hf : f.size ≤ 200) (hl : l.size ≤ 200) : ∃ r, FoAbbr 1000000 (f, (l, (off, (dst, ())))) = some r ∧ A6Abbr 1000000 (f, (l, (off, (dst, ())))) = some r := by
  have hfin : ∀ d : ByteArray, d.size ≤ 400 → ∃ r, FoAbbr_s0 1000000 d = some r ∧ A6Abbr_s0 1000000 d = some r := fun d hd => by
    rw [fin6 (by omega) (by omega), fin19 (by omega) (by omega)]
    cases hp : plainB d with
    | true => unfold finA; rw [hp]; exact ⟨_, rfl, rfl⟩
    | false => unfold finA; rw [hp]; exact ⟨_, rfl, rfl⟩
  have e6 : FoAbbr 1000000 (f, (l, (off, (dst, ())))) = FoAbbr_px 1000000 (FoAbbr_s0 1000000) (f, (l, (off, (dst, ())))) := rfl
  have e19 : A6Abbr 1000000 (f, (l, (off, (dst, ())))) = A6Abbr_px 1000000 (A6Abbr_s0 1000000) (f, (l, (off, (dst, ())))) := rfl
  rw [e6, e19]
  revert hfin
  generalize FoAbbr_s0 1000000 = k6
  generalize A6Abbr_s0 1000000 = k19
  intro hfin
  simp only [FoAbbr_px, A6Abbr_px]
  by_cases o1 : off < -180000
  · rw [decide_eq_true o1]; exact ⟨_, rfl, rfl⟩
  rw [decide_eq_false o1, cond_false, cond_false]
  by_cases o2 : off > 180000
  · rw [decide_eq_true o2]; exact ⟨_, rfl, rfl⟩
  rw [decide_eq_false o2, cond_false, cond_false]
  rw [cutF_val hf, Option.bind_some, containsF_val hf, Option.bind_some, containsF_val hf, Option.bind_some]
  rw [find_val (s := f) (t := pS) (by show 1 ≤ 2; omega) (by omega) (by show 2 ≤ 1000; omega) (by omega), Option.bind_some]
  rw [find_val (s := f) (t := pZ) (by show 1 ≤ 2; omega) (by omega) (by show 2 ≤ 1000; omega) (by omega), Option.bind_some]
  rw [find_val (s := f) (t := pC) (by show 1 ≤ 1; omega) (by omega) (by show 1 ≤ 1000; omega) (by omega), Option.bind_some]
  have rS := Lib.index_room (dl f) (dl pS)
  have rZ := Lib.index_room (dl f) (dl pZ)
  have rC := Lib.index_room (dl f) (dl pC)
  have zf := dl_length f
  have zS : (dl pS).length = 2 := by kernel_rfl
  have zZ : (dl pZ).length = 2 := by kernel_rfl
  have zC : (dl pC).length = 1 := by kernel_rfl
  by_cases hS : 0 ≤ Lib.index (dl f) (dl pS)
  · obtain ⟨i, hi⟩ := Int.eq_ofNat_of_zero_le hS
    have hr := rS hS
    rw [replaceF_val (i := i) hf hl (by show 1 ≤ 2; omega) hi, Option.bind_some]
    rw [hi] at hr hS ⊢
    have b0 : decide ((0 : Int) ≤ (i : Int)) = true := decide_eq_true hS
    have b1 : decide ((i : Int) ≥ 0) = true := decide_eq_true hS
    have b2 : decide (0 ≤ (i : Int) ∧ (i : Int) ≤ ((f.size : Nat) : Int)) = true := decide_eq_true (by omega)
    have w : w64 ((i : Int) + 2) = ((i + 2 : Nat) : Int) := by rw [w64_id (by omega) (by omega)]; rfl
    have b3 : decide (0 ≤ ((i + 2 : Nat) : Int) ∧ ((i + 2 : Nat) : Int) ≤ ((f.size : Nat) : Int)) = true := decide_eq_true (by omega)
    have z1 := ext_size (s := f) (i := 0) (j := i)
    have z2 := ext_size (s := f) (i := i + 2) (j := f.size)
    have z3 : (f.extract 0 i ++ l).size = (f.extract 0 i).size + l.size := size_append _ _
    have n1 := nomax (a := (f.extract 0 i).size) (b := l.size) (by omega) (by omega)
    have n2 := nomax (a := (f.extract 0 i ++ l).size) (b := (f.extract (i + 2) f.size).size) (by omega) (by omega)
    dsimp only
    rw [b0, cond_true, cond_true, b2, cond_true, Int.toNat_natCast, n1, cond_false, w, b3, cond_true, Int.toNat_natCast, n2, cond_false]
    exact hfin _ (by have := rep_size (s := f) (o := pS) (l := l) (i := i) (by omega); exact Nat.le_trans this (by omega))
  · rw [decide_eq_false hS, cond_false]
    dsimp only
    rw [cond_false]
    by_cases hZ : 0 ≤ Lib.index (dl f) (dl pZ)
    · obtain ⟨i, hi⟩ := Int.eq_ofNat_of_zero_le hZ
      have hr := rZ hZ
      obtain ⟨d, hd1, hd2, hd3⟩ := rdigits_val (n := 1000000) (x := off) (by omega) (by omega)
      rw [hd2, Option.bind_some, replaceF_val (l := d) (i := i) hf (by omega) (by show 1 ≤ 2; omega) hi, Option.bind_some]
      rw [hi] at hr hZ ⊢
      have b0 : decide ((0 : Int) ≤ (i : Int)) = true := decide_eq_true hZ
      have b1 : decide ((i : Int) ≥ 0) = true := decide_eq_true hZ
      have b2 : decide (0 ≤ (i : Int) ∧ (i : Int) ≤ ((f.size : Nat) : Int)) = true := decide_eq_true (by omega)
      have w : w64 ((i : Int) + 2) = ((i + 2 : Nat) : Int) := by rw [w64_id (by omega) (by omega)]; rfl
      have b3 : decide (0 ≤ ((i + 2 : Nat) : Int) ∧ ((i + 2 : Nat) : Int) ≤ ((f.size : Nat) : Int)) = true := decide_eq_true (by omega)
      have z1 := ext_size (s := f) (i := 0) (j := i)
      have z2 := ext_size (s := f) (i := i + 2) (j := f.size)
      have z3 : (f.extract 0 i ++ d).size = (f.extract 0 i).size + d.size := size_append _ _
      have n1 := nomax (a := (f.extract 0 i).size) (b := d.size) (by omega) (by omega)
      have n2 := nomax (a := (f.extract 0 i ++ d).size) (b := (f.extract (i + 2) f.size).size) (by omega) (by omega)
      dsimp only
      rw [b0, cond_true, cond_true, b2, cond_true, Int.toNat_natCast, hd1, Option.bind_some]
      dsimp only
      rw [n1, cond_false, w, b3, cond_true, Int.toNat_natCast, n2, cond_false]
      exact hfin _ (by have := rep_size (s := f) (o := pZ) (l := d) (i := i) (by omega); exact Nat.le_trans this (by omega))
    · rw [decide_eq_false hZ, cond_false, cond_false]
      unfold Lib.cut
      by_cases hC : 0 ≤ Lib.index (dl f) (dl pC)
      · obtain ⟨i, hi⟩ := Int.eq_ofNat_of_zero_le hC
        have hr := rC hC
        rw [if_pos hC, cond_true, cond_true]
        rw [hi] at hr hC ⊢
        have b1 : decide ((i : Int) ≥ 0) = true := decide_eq_true hC
        have b2 : decide (0 ≤ (i : Int) ∧ (i : Int) ≤ ((f.size : Nat) : Int)) = true := decide_eq_true (by omega)
        have w : w64 ((i : Int) + 1) = ((i + 1 : Nat) : Int) := by rw [w64_id (by omega) (by omega)]; rfl
        have b3 : decide (0 ≤ ((i + 1 : Nat) : Int) ∧ ((i + 1 : Nat) : Int) ≤ ((f.size : Nat) : Int)) = true := decide_eq_true (by omega)
        rw [b1, cond_true, w, b3, b2, Int.toNat_natCast, Int.toNat_natCast, zC]
        have x1 : bs ((dl f).take i) = f.extract 0 i := dl_ext (by rw [dl_bs, dl_extract, List.drop_zero, Nat.sub_zero])
        have x2 : bs ((dl f).drop (i + 1)) = f.extract (i + 1) f.size := dl_ext (by
          rw [dl_bs, dl_extract]; symm; apply List.take_of_length_le; rw [List.length_drop]; omega)
        simp only [x1, x2, cond_true]
        have z1 := ext_size (s := f) (i := 0) (j := i)
        have z2 := ext_size (s := f) (i := i + 1) (j := f.size)
        cases dst with
        | true => rw [cond_true, cond_true]; exact hfin _ (by omega)
        | false => rw [cond_false, cond_false]; exact hfin _ (by omega)
      · have b1 : decide (Lib.index (dl f) (dl pC) ≥ 0) = false := decide_eq_false hC
        rw [if_neg hC, b1]
        simp only [cond_false]
        exact hfin _ (by omega)

end Go.Proofs.YtadamegddcadcaaGreatDoorPi

namespace Go.Proofs.YtadamegddcadcaaGreatDoorPi
open Go Go.Proofs Go.RowKit
set_option maxRecDepth 100000
set_option maxHeartbeats 1000000
set_option linter.unusedVariables false

theorem of_eq {e : D_api_Era} {s : D_DeState} (hf : e.2.2.2.2.1.size ≤ 200) (hl : s.2.2.1.size ≤ 200) : ∃ r, FoOf 1000000 (e, (s, ())) = some r ∧ A6Of 1000000 (e, (s, ())) = some r := by
  unfold FoOf FoOf_px A6Of A6Of_px
  obtain ⟨r, h1, h2⟩ := abbr_eq (off := w64 (e.1 + s.2.1)) (dst := (s.2.1 != 0)) hf hl
  simp only [h1, h2, Option.bind_some, cb_ne]
  by_cases hk : r.2.1 = 0
  · simp only [hk, if_true]
    exact ⟨_, rfl, rfl⟩
  · simp only [hk, if_false]
    exact ⟨_, rfl, rfl⟩
theorem alive16 : B6alive 1000000 () = some (true, ()) := by kernel_rfl
theorem eqD_local (x : D_api_Local) : eqD T_api_Local x x = true := by
  obtain ⟨a, b, c, u⟩ := x
  have h1 : (c == c) = true := by
    show ByteArray.beq c c = true
    unfold ByteArray.beq
    exact beq_self_eq_true (ByteArray.data c)
  simp [eqD, h1]
/-- What clocks show: the document's answer and the program's are one. -/
theorem fat_eq {z : D_A5Zone} (hz : ZoneB z) {t : Int} (h0 : -9223372036854775808 ≤ t) (h1 : t ≤ 9223372036854775807) : ∃ r, FoAt 1000000 (z, (t, ())) = some r ∧ A6At 1000000 (z, (t, ())) = some r := by
  have hn : 1000000 ≤ (1000000 : Nat) := Nat.le_refl _
  unfold FoAt FoAt_px A6At A6At_px
  obtain ⟨a, ha, haq⟩ := eAt hn hz h0 h1
  simp only [at_eq hn hz h0 h1, ha, Option.bind_some, cb_ne]
  rcases haq with ⟨hk, _⟩ | ⟨hk, hle, e0, e1, _, _⟩
  · rw [if_neg hk, if_neg hk]; exact ⟨_, rfl, rfl⟩
  · have hlt : Int.toNat a.1.1 < z.1.length := by omega
    have hget : z.1[Int.toNat a.1.1]? = some z.1[Int.toNat a.1.1] := List.getElem?_eq_getElem hlt
    have hE := hz.2.2.1 _ (List.getElem_mem hlt)
    obtain ⟨w, hw, hw'⟩ := of_eq (e := z.1[Int.toNat a.1.1]) (s := a.1) (by have := hE.2.2.2.2.2.2; omega) (by omega)
    simp only [if_pos hk, hget, Option.bind_some, decide_eq_true e0, cond_true, hw, hw']
    exact ⟨_, rfl, rfl⟩
theorem formatAts_pure (z : D_A5Zone) (t : Int) (u : Unit) (t0 : -9223372036854775808 ≤ t) (t1 : t ≤ 9223372036854775807) : B6FormatAts 1000000 (z, (t, u)) = some (true, ()) := by
  have hn : 1000000 ≤ (1000000 : Nat) := Nat.le_refl _
  unfold B6FormatAts B6FormatAts_px
  obtain ⟨v, hv, hq⟩ := light15 hn z
  simp only [hv, Option.bind_some, alive16]
  cases hvb : v.1
  · rfl
  simp only [Bool.not_true, cond_false]
  obtain ⟨r, h1, h2⟩ := fat_eq (hq hvb) t0 t1
  simp only [own_eq, Option.bind_some, h1, h2, eqD_local, cond_true, beq_self_eq_true]
theorem formatAts_good (x : B6FormatAts_ps.den) (gx : goods B6FormatAts_ps x) : B6FormatAts 1000000 x = some (true, ()) :=
  formatAts_pure x.1 x.2.1 x.2.2 (i64_range gx.2.1).1 (i64_range gx.2.1).2
end Go.Proofs.YtadamegddcadcaaGreatDoorPi
