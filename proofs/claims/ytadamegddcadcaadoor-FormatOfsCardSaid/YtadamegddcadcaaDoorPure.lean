import Derived.Test.YtadamegddcadcaaDoorFmt
set_option linter.unusedVariables false
namespace Go.Proofs.YtadamegddcadcaaDoorPi
open Go Go.Proofs Go.RowKit
set_option maxRecDepth 100000

theorem w64_id {x : Int} (h0 : -9223372036854775808 ≤ x) (h1 : x ≤ 9223372036854775807) : w64 x = x := by
  show IntKind.wrap .i64 x = x
  have h2 : IntKind.wrap .i64 x = wrap64 x := by
    unfold IntKind.wrap wrap64
    have e1 : IntKind.signed .i64 = true := rfl
    have e2 : IntKind.bits .i64 = 64 := rfl
    simp only [e1, e2, Bool.true_and, decide_eq_true_eq]
    split <;> omega
  rw [h2]; unfold wrap64; omega
theorem w8_id {x : Int} (h0 : 0 ≤ x) (h1 : x < 256) : w8 x = x := by
  show IntKind.wrap .u8 x = x
  unfold IntKind.wrap
  have e1 : IntKind.signed .u8 = false := rfl
  have e2 : IntKind.bits .u8 = 8 := rfl
  simp only [e1, e2, Bool.false_and, Bool.false_eq_true, if_false]
  omega

def lowr (e : Int) : Int := w8 (((BitVec.ofInt (IntKind.bits .u8) e) ||| (BitVec.ofInt (IntKind.bits .u8) (32 : Int))).toNat : Int)
def okc (e : Int) : Bool := (decide (97 ≤ lowr e) && (decide (lowr e ≤ 122) && decide (e < 128))) || ((decide (48 ≤ e) && decide (e ≤ 57)) || ((e == 43) || (e == 45)))

theorem plain_step {n : Nat} {k0 : f14_t0 → Option f14_rs.den} {r2 : f14_t2 → Option f14_rs.den} {s : ByteArray} {bs : List Int} {i : Nat} {e : Int} (hi : bs[i]? = some e) (hb : bs.length < 1000000000000) :
    f14_s2 n k0 r2 (s, bs, (bs.length : Int), (i : Int)) = bif okc e then r2 (s, bs, (bs.length : Int), ((i + 1 : Nat) : Int)) else some (false, ()) := by
  have hlt : i < bs.length := (List.getElem?_eq_some_iff.1 hi).1
  have h1 : decide ((i : Int) < (bs.length : Int)) = true := by simp; omega
  have h2 : decide (0 ≤ (i : Int)) = true := by simp
  have h3 : w64 ((i : Int) + 1) = ((i + 1 : Nat) : Int) := by rw [w64_id (by omega) (by omega)]; rfl
  simp only [f14_s2, f14_p2, f14_s3, f14_p3, f14_s4, f14_p4]
  rw [h1, h2, cond_true, cond_true, Int.toNat_natCast, hi, Option.bind_some, h3]
  unfold okc lowr
  generalize decide (97 ≤ w8 _) = c1
  generalize decide (w8 _ ≤ 122) = c2
  generalize decide (e < 128) = c3
  generalize decide (48 ≤ e) = c4
  generalize decide (e ≤ 57) = c5
  generalize (e == 43) = c6
  generalize (e == 45) = c7
  cases c1 <;> cases c2 <;> cases c3 <;> cases c4 <;> cases c5 <;> cases c6 <;> cases c7 <;> rfl

theorem plain_fin (n : Nat) (s : ByteArray) : f14_s0 n s = some (decide (3 ≤ s.size ∧ s.size ≤ 6), ()) := by
  simp only [f14_s0, f14_p0]
  by_cases h3 : 3 ≤ s.size
  · have : decide ((s.size : Int) ≥ 3) = true := by simp; omega
    rw [this, cond_true]
    congr 2
    apply decide_eq_decide.2
    omega
  · have : decide ((s.size : Int) ≥ 3) = false := by simp; omega
    rw [this, cond_false]
    congr 2
    symm
    simp; omega

theorem plain_end {n : Nat} {k0 : f14_t0 → Option f14_rs.den} {r2 : f14_t2 → Option f14_rs.den} {s : ByteArray} {bs : List Int} {i : Nat} (hi : bs.length ≤ i) :
    f14_s2 n k0 r2 (s, bs, (bs.length : Int), (i : Int)) = k0 s := by
  have h1 : decide ((i : Int) < (bs.length : Int)) = false := by simp; omega
  simp only [f14_s2, f14_p2]
  rw [h1, cond_false]

def plainB (s : ByteArray) : Bool := (bytesOf s).all okc && decide (3 ≤ s.size ∧ s.size ≤ 6)

theorem plain_loop {n : Nat} {s : ByteArray} {bs : List Int} (hb : bs.length < 1000000000000) : ∀ (k : Nat) (i : Nat), i ≤ bs.length → bs.length < k + i →
    rounds (fun r2 x' => f14_s2 n (f14_s0 n) r2 x') k (s, bs, (bs.length : Int), (i : Int)) = some ((bs.drop i).all okc && decide (3 ≤ s.size ∧ s.size ≤ 6), ())
  | 0, i, h0, h => by omega
  | k + 1, i, h0, h => by
    show f14_s2 n (f14_s0 n) (rounds (fun r2 x' => f14_s2 n (f14_s0 n) r2 x') k) (s, bs, (bs.length : Int), (i : Int)) = _
    by_cases hi : i < bs.length
    · rw [plain_step (List.getElem?_eq_getElem hi) hb, plain_loop hb k (i + 1) (by omega) (by omega)]
      rw [List.drop_eq_getElem_cons hi, List.all_cons]
      cases okc bs[i] <;> rfl
    · rw [plain_end (by omega), plain_fin, List.drop_eq_nil_of_le (by omega)]
      rfl

theorem plain_val {n : Nat} {s : ByteArray} (hs : s.size < n) (hb : s.size < 1000000000000) : f14 n (s, ()) = some (plainB s, ()) := by
  have hl := bytesOf_length s
  show rounds (fun r2 x' => f14_s2 n (f14_s0 n) r2 x') n (s, bytesOf s, ((bytesOf s).length : Int), ((0 : Nat) : Int)) = _
  rw [plain_loop (by omega) n 0 (by omega) (by omega)]
  rfl
end Go.Proofs.YtadamegddcadcaaDoorPi

namespace Go.Proofs.YtadamegddcadcaaDoorPi
open Go Go.Proofs Go.RowKit
set_option maxRecDepth 100000
set_option maxHeartbeats 1000000

theorem ofBytes_size (xs : List Int) : (ofBytes xs).size = xs.length := by
  show (ofBytes xs).data.size = _
  simp [ofBytes]
theorem ofBytes_get (xs : List Int) (i : Nat) : (ofBytes xs)[i]? = (xs[i]?).map fun x => UInt8.ofNat x.toNat := by
  by_cases h : i < xs.length
  · have h' : i < (ofBytes xs).size := by rw [ofBytes_size]; exact h
    rw [getElem?_pos (ofBytes xs) i h', List.getElem?_eq_getElem h]
    simp only [Option.map_some, Option.some.injEq]
    show (ofBytes xs).data[i] = _
    simp [ofBytes]
  · have h' : ¬ i < (ofBytes xs).size := by rw [ofBytes_size]; exact h
    rw [getElem?_neg (ofBytes xs) i h', List.getElem?_eq_none (by omega)]; rfl
theorem byte_back {x : Int} (h0 : 0 ≤ x) (h1 : x < 256) : ((UInt8.ofNat x.toNat).toNat : Int) = x := by
  rw [UInt8.toNat_ofNat']; omega
theorem bytesOf_ofBytes (xs : List Int) (h : ∀ x ∈ xs, 0 ≤ x ∧ x < 256) : bytesOf (ofBytes xs) = xs := by
  unfold bytesOf ofBytes
  simp only [List.map_map]
  rw [show xs = xs.map id by simp]
  simp only [List.map_id]
  apply List.ext_getElem?
  intro i
  simp only [List.getElem?_map]
  cases hx : xs[i]? with
  | none => rfl
  | some x =>
    have := h x (List.mem_of_getElem? hx)
    simp only [Option.map_some, Function.comp, byte_back this.1 this.2]

theorem digit_ok {e : Int} (h0 : 48 ≤ e) (h1 : e ≤ 57) : okc e = true := by
  unfold okc
  have a : decide (48 ≤ e) = true := by simpa using h0
  have b : decide (e ≤ 57) = true := by simpa using h1
  rw [a, b]; simp
theorem sign_ok {s : Int} (hs : s = 43 ∨ s = 45) : okc s = true := by
  rcases hs with rfl | rfl
  · kernel_rfl
  · kernel_rfl

theorem digL_ok {s m : Int} (hs : s = 43 ∨ s = 45) (h0 : 0 ≤ m) (h1 : m ≤ 180000) : (digL s m).all okc = true := by
  have a : ∀ p : Int, 0 ≤ p → p ≤ 99 → (two2 p).all okc = true := fun p q r => by
    unfold two2
    simp only [List.all_cons, List.all_nil, Bool.and_true, Bool.and_eq_true]
    exact ⟨digit_ok (by omega) (by omega), digit_ok (by omega) (by omega)⟩
  unfold digL
  rw [List.all_cons, sign_ok hs, List.all_append, a _ (by omega) (by omega), List.all_append]
  split
  · rw [a _ (by omega) (by omega)]
    split
    · rw [a _ (by omega) (by omega)]; rfl
    · rfl
  · split
    · rw [a _ (by omega) (by omega)]; rfl
    · rfl

/-- What '%z' is written as. -/
theorem abbr_z {off : Int} {d : ByteArray} (h0 : -180000 ≤ off) (h1 : off ≤ 180000) (hd : digitsF 60 (off, ()) = some (d, ())) (hne : d.data.toList ≠ [37, 122]) (hsz : d.size ≤ 7) :
    f6 60 ((⟨#[37, 122]⟩ : ByteArray), ((⟨#[]⟩ : ByteArray), (off, (false, ())))) = f6_s0 60 d := by
  have c1 : cutF 60 ((⟨#[37, 122]⟩ : ByteArray), ((⟨#[47]⟩ : ByteArray), ())) = some ((⟨#[37, 122]⟩ : ByteArray), ((⟨#[]⟩ : ByteArray), (false, ()))) := by kernel_rfl
  have c2 : containsF 60 ((⟨#[37, 122]⟩ : ByteArray), ((⟨#[37, 115]⟩ : ByteArray), ())) = some (false, ()) := by kernel_rfl
  have c3 : containsF 60 ((⟨#[37, 122]⟩ : ByteArray), ((⟨#[37, 122]⟩ : ByteArray), ())) = some (true, ()) := by kernel_rfl
  have c4 : replaceF 60 ((⟨#[37, 122]⟩ : ByteArray), ((⟨#[37, 122]⟩ : ByteArray), (d, ((1 : Int), ())))) = some (d, ()) := by
    have hc : Lib.countB (⟨#[37, 122]⟩ : ByteArray) (⟨#[37, 122]⟩ : ByteArray) = 1 := by kernel_rfl
    unfold replaceF
    rw [if_pos ⟨(by show (2 : Nat) < 4294967281; decide), (by show 1 ≤ 2; decide), by simp only [hc]; show 2 + 1 * d.size ≤ _; omega⟩]
    have hn : Lib.replaceNum [37, 122] [37, 122] 1 = 1 := by kernel_rfl
    have hr : Lib.replace [37, 122] [37, 122] d.data.toList 1 = d.data.toList := by
      unfold Lib.replace
      rw [if_neg (by simpa using fun h => hne h.symm), hn]
      have : Lib.replaceK [37, 122] d.data.toList 1 [37, 122] = [] ++ d.data.toList ++ [] := by kernel_rfl
      rw [this]; simp
    show some (bs (Lib.replace [37, 122] [37, 122] d.data.toList 1), ()) = _
    rw [hr]
    rfl
  have d1 : decide (off < -180000) = false := by simp; omega
  have d2 : decide (off > 180000) = false := by simp; omega
  simp only [f6, f6_px]
  rw [d1, d2, cond_false, cond_false, c1, Option.bind_some, c2, Option.bind_some, cond_false, c3, Option.bind_some, cond_true, hd, Option.bind_some, c4, Option.bind_some]

theorem abbr_fin {d : ByteArray} (hsz : d.size < 60) : f6_s0 60 d = bif plainB d then some (d, ((0 : Int), ())) else some ((⟨#[]⟩ : ByteArray), ((15 : Int), ())) := by
  simp only [f6_s0, f6_p0]
  rw [plain_val hsz (by omega), Option.bind_some]
  cases plainB d <;> rfl

theorem alive_ok : f7 60 () = some (true, ()) := by kernel_rfl
end Go.Proofs.YtadamegddcadcaaDoorPi

namespace Go.Proofs.YtadamegddcadcaaDoorPi
open Go Go.Proofs Go.RowKit
set_option maxRecDepth 100000
set_option maxHeartbeats 1000000

theorem dstep {n : Nat} {k0 : f3_t0 → Option f3_rs.den} {r2 : f3_t2 → Option f3_rs.den} {x acc unit : Int} {d : ByteArray} {i : Nat} {a b : Int} {c c' : UInt8} (h1 : d[i]? = some c) (h2 : d[i + 1]? = some c')
    (e1 : (c.toNat : Int) = 48 + a) (e2 : (c'.toNat : Int) = 48 + b) (ha : 0 ≤ a ∧ a ≤ 9) (hb : 0 ≤ b ∧ b ≤ 9) (hacc : 0 ≤ acc ∧ acc ≤ 1000000) (hu : 0 ≤ unit ∧ unit ≤ 3600) (hi : i ≤ 100) :
    f3_s2 n k0 r2 (x, d, acc, unit, (i : Int)) = r2 (x, d, acc + (a * 10 + b) * unit, unit / 60, ((i + 2 : Nat) : Int)) := by
  have hlt : i + 1 < d.size := by
    rcases Nat.lt_or_ge (i + 1) d.size with h | h
    · exact h
    · rw [getElem?_neg d (i + 1) (by omega)] at h2; cases h2
  have hp0 : 0 ≤ (a * 10 + b) * unit := Int.mul_nonneg (by omega) hu.1
  have hp1 : (a * 10 + b) * unit ≤ 99 * 3600 := Int.mul_le_mul (by omega) hu.2 hu.1 (by omega)
  have w1 : w64 ((i : Int) + 1) = ((i + 1 : Nat) : Int) := by rw [w64_id (by omega) (by omega)]; rfl
  have w2 : w64 ((i : Int) + 2) = ((i + 2 : Nat) : Int) := by rw [w64_id (by omega) (by omega)]; rfl
  have t1 : decide (((i + 1 : Nat) : Int) < (d.size : Int)) = true := by simp; omega
  have t2 : decide (0 ≤ (i : Int)) = true := by simp
  have t3 : decide (0 ≤ ((i + 1 : Nat) : Int)) = true := by simp; omega
  have v1 : w64 (w8 ((c.toNat : Int) - 48)) = a := by rw [e1, w8_id (by omega) (by omega), w64_id (by omega) (by omega)]; omega
  have v2 : w64 (w8 ((c'.toNat : Int) - 48)) = b := by rw [e2, w8_id (by omega) (by omega), w64_id (by omega) (by omega)]; omega
  have v3 : w64 (a * 10) = a * 10 := w64_id (by omega) (by omega)
  have v4 : w64 (a * 10 + b) = a * 10 + b := w64_id (by omega) (by omega)
  have v5 : w64 ((a * 10 + b) * unit) = (a * 10 + b) * unit := w64_id (by omega) (by omega)
  have v6 : w64 (acc + (a * 10 + b) * unit) = acc + (a * 10 + b) * unit := w64_id (by omega) (by omega)
  have v7 : Int.tdiv unit 60 = unit / 60 := Int.tdiv_eq_ediv_of_nonneg hu.1
  have v8 : w64 (unit / 60) = unit / 60 := w64_id (by omega) (by omega)
  simp only [f3_s2, f3_p2]
  rw [w1, t1, t2, cond_true, cond_true, Int.toNat_natCast, h1, Option.bind_some, t3, cond_true, Int.toNat_natCast, h2, Option.bind_some, v1, v2, v3, v4, v5, v6, v7, v8, w2]

theorem dend {n : Nat} {k0 : f3_t0 → Option f3_rs.den} {r2 : f3_t2 → Option f3_rs.den} {x acc unit : Int} {d : ByteArray} {i : Nat} (hlt : d.size ≤ i + 1) (hi : i ≤ 100) :
    f3_s2 n k0 r2 (x, d, acc, unit, (i : Int)) = k0 (x, d, acc) := by
  have w1 : w64 ((i : Int) + 1) = ((i + 1 : Nat) : Int) := by rw [w64_id (by omega) (by omega)]; rfl
  have t1 : decide (((i + 1 : Nat) : Int) < (d.size : Int)) = false := by simp; omega
  simp only [f3_s2, f3_p2]
  rw [w1, t1, cond_false]

theorem dfin {x m : Int} {d : ByteArray} {s : Int} (hd : d[0]? = some (UInt8.ofNat s.toNat)) (hx : (x = m ∧ s = 43) ∨ (x = -m ∧ s = 45)) (hm : 0 ≤ m ∧ m ≤ 180000) (hs : d.size = 3 ∨ d.size = 5) : f3_s0 60 (x, d, m) = some (true, ()) := by
  have fin : f3_s3 60 (x, d, x) = some (true, ()) := by
    simp only [f3_s3, f3_p3]
    rw [show (x == x) = true from by simp, cond_true]
    rcases hs with h | h
    · rw [h]; kernel_rfl
    · rw [h]; kernel_rfl
  simp only [f3_s0, f3_p0]
  rw [show Int.toNat (0 : Int) = 0 from rfl, hd, Option.bind_some]
  rcases hx with ⟨rfl, rfl⟩ | ⟨rfl, rfl⟩
  · exact fin
  · have : w64 (0 - m) = -m := by rw [w64_id (by omega) (by omega)]; omega
    rw [this]
    exact fin

theorem law_in {x m s : Int} (h0 : 0 ≤ m) (h1 : m ≤ 180000) (hx : (x = m ∧ s = 43) ∨ (x = -m ∧ s = 45)) (hd : digitsF 60 (x, ()) = some (ofBytes (digL s m), ())) : f3 60 (x, ()) = some (true, ()) := by
  have hs : s = 43 ∨ s = 45 := by rcases hx with ⟨_, h⟩ | ⟨_, h⟩ <;> simp [h]
  have hr : ∀ y ∈ digL s m, 0 ≤ y ∧ y < 256 := digL_range (by rcases hs with rfl | rfl <;> omega) h0 h1
  have hsz := ofBytes_size (digL s m)
  have l7 : (digL s m).length ≤ 7 := by
    unfold digL two2; simp only [List.length_cons, List.length_append]
    split <;> split <;> simp
  have hne : (ofBytes (digL s m)).data.toList ≠ [37, 122] := by
    intro h
    have h2 := congrArg List.head? h
    unfold ofBytes digL at h2
    simp only [List.map_cons, List.head?_cons, Option.some.injEq] at h2
    rcases hs with rfl | rfl
    · revert h2; decide
    · revert h2; decide
  have e6 := abbr_z (off := x) (by rcases hx with ⟨h, _⟩ | ⟨h, _⟩ <;> omega) (by rcases hx with ⟨h, _⟩ | ⟨h, _⟩ <;> omega) hd hne (by omega)
  rw [abbr_fin (by omega)] at e6
  have hpl : plainB (ofBytes (digL s m)) = decide (3 ≤ (ofBytes (digL s m)).size ∧ (ofBytes (digL s m)).size ≤ 6) := by
    unfold plainB
    rw [bytesOf_ofBytes _ hr, digL_ok hs h0 h1, Bool.true_and]
  have d1 : decide (x < -180000) = false := by
    simp only [decide_eq_false_iff_not]; rcases hx with ⟨h, _⟩ | ⟨h, _⟩ <;> omega
  have d2 : decide (x > 180000) = false := by
    simp only [decide_eq_false_iff_not]; rcases hx with ⟨h, _⟩ | ⟨h, _⟩ <;> omega
  simp only [f3, f3_px]
  by_cases h6 : m % 60 = 0
  · by_cases h36 : m % 3600 = 0
    · have hl : digL s m = [s, 48 + m / 3600 / 10, 48 + m / 3600 % 10] := by
        unfold digL two2; rw [if_neg (by omega), if_neg (by omega)]; rfl
      have hsz3 : (ofBytes (digL s m)).size = 3 := by rw [hsz, hl]; rfl
      rw [hpl, hsz3] at e6
      rw [show decide (3 ≤ 3 ∧ 3 ≤ 6) = true from rfl, cond_true] at e6
      rw [e6, Option.bind_some, d1, d2, cond_false, cond_false]
      simp only [hsz3]
      rw [show ((0 : Int) != 0) = false from rfl, cond_false, show (((3 : Nat) : Int) == 0) = false from rfl, cond_false]
      show f3_s2 60 (f3_s0 60) (rounds _ 59) (x, ofBytes (digL s m), 0, 3600, ((1 : Nat) : Int)) = _
      have g := ofBytes_get (digL s m)
      rw [dstep (a := m / 3600 / 10) (b := m / 3600 % 10) (c := UInt8.ofNat (48 + m / 3600 / 10).toNat) (c' := UInt8.ofNat (48 + m / 3600 % 10).toNat) (by rw [g, hl]; rfl) (by rw [g, hl]; rfl) (byte_back (by omega) (by omega)) (byte_back (by omega) (by omega)) (by omega) (by omega) (by omega) (by omega) (by omega)]
      show f3_s2 60 (f3_s0 60) (rounds _ 58) (x, ofBytes (digL s m), _, _, ((3 : Nat) : Int)) = _
      rw [dend (by omega) (by omega)]
      have : 0 + (m / 3600 / 10 * 10 + m / 3600 % 10) * 3600 = m := by omega
      rw [this]
      exact dfin (by rw [g, hl]; rfl) hx ⟨h0, h1⟩ (.inl hsz3)
    · have hl : digL s m = [s, 48 + m / 3600 / 10, 48 + m / 3600 % 10, 48 + m / 60 % 60 / 10, 48 + m / 60 % 60 % 10] := by
        unfold digL two2; rw [if_pos (by omega), if_neg (by omega)]; rfl
      have hsz5 : (ofBytes (digL s m)).size = 5 := by rw [hsz, hl]; rfl
      rw [hpl, hsz5] at e6
      rw [show decide (3 ≤ 5 ∧ 5 ≤ 6) = true from rfl, cond_true] at e6
      rw [e6, Option.bind_some, d1, d2, cond_false, cond_false]
      simp only [hsz5]
      rw [show ((0 : Int) != 0) = false from rfl, cond_false, show (((5 : Nat) : Int) == 0) = false from rfl, cond_false]
      show f3_s2 60 (f3_s0 60) (rounds _ 59) (x, ofBytes (digL s m), 0, 3600, ((1 : Nat) : Int)) = _
      have g := ofBytes_get (digL s m)
      rw [dstep (a := m / 3600 / 10) (b := m / 3600 % 10) (c := UInt8.ofNat (48 + m / 3600 / 10).toNat) (c' := UInt8.ofNat (48 + m / 3600 % 10).toNat) (by rw [g, hl]; rfl) (by rw [g, hl]; rfl) (byte_back (by omega) (by omega)) (byte_back (by omega) (by omega)) (by omega) (by omega) (by omega) (by omega) (by omega)]
      show f3_s2 60 (f3_s0 60) (rounds _ 58) (x, ofBytes (digL s m), 0 + (m / 3600 / 10 * 10 + m / 3600 % 10) * 3600, 3600 / 60, ((3 : Nat) : Int)) = _
      rw [dstep (a := m / 60 % 60 / 10) (b := m / 60 % 60 % 10) (c := UInt8.ofNat (48 + m / 60 % 60 / 10).toNat) (c' := UInt8.ofNat (48 + m / 60 % 60 % 10).toNat) (by rw [g, hl]; rfl) (by rw [g, hl]; rfl) (byte_back (by omega) (by omega)) (byte_back (by omega) (by omega)) (by omega) (by omega) (by omega) (by omega) (by omega)]
      show f3_s2 60 (f3_s0 60) (rounds _ 57) (x, ofBytes (digL s m), _, _, ((5 : Nat) : Int)) = _
      rw [dend (by omega) (by omega)]
      have : 0 + (m / 3600 / 10 * 10 + m / 3600 % 10) * 3600 + (m / 60 % 60 / 10 * 10 + m / 60 % 60 % 10) * (3600 / 60) = m := by omega
      rw [this]
      exact dfin (by rw [g, hl]; rfl) hx ⟨h0, h1⟩ (.inr hsz5)
  · have hl : (digL s m).length = 7 := by
      unfold digL two2; rw [if_pos (by omega), if_pos h6]; rfl
    rw [hpl, hsz, hl] at e6
    rw [show decide (3 ≤ 7 ∧ 7 ≤ 6) = false from rfl, cond_false] at e6
    have ht : (Int.tmod x 60 != 0) = true := by
      have h7 : Int.tmod m 60 ≠ 0 := by rw [Int.tmod_eq_emod_of_nonneg h0]; exact h6
      rcases hx with ⟨rfl, _⟩ | ⟨rfl, _⟩
      · simpa using h7
      · rw [Int.neg_tmod]; simpa using h7
    rw [e6, Option.bind_some, d1, d2, cond_false, cond_false]
    show (bif ((15 : Int) != 0) then (bif ((15 : Int) == 15) then (bif (Int.tmod x 60 != 0) then _ else _) else _) else _) = _
    rw [ht]
    kernel_rfl

theorem alive_A : (bif (((⟨#[]⟩ : ByteArray), ((1 : Int), ())).2.1 == 1) then
      bif ByteArray.toList ((⟨#[]⟩ : ByteArray), ((1 : Int), ())).1 == (⟨#[]⟩ : ByteArray).toList then
        (f7 60 ()).bind fun r2 => some (r2.1, ())
      else some (false, ())
    else some (false, ())) = (some (true, ()) : Option f3_rs.den) := by kernel_rfl
theorem formatDigits_pure (x : Int) : f3 60 (x, ()) = some (true, ()) := by
  by_cases h1 : x < -180000
  · have d1 : decide (x < -180000) = true := by simpa using h1
    simp only [f3, f3_px, f6, f6_px]
    rw [d1, cond_true, Option.bind_some, cond_true]
    exact alive_A
  · have d1 : decide (x < -180000) = false := by simpa using h1
    by_cases h2 : x > 180000
    · have d2 : decide (x > 180000) = true := by simpa using h2
      simp only [f3, f3_px, f6, f6_px]
      rw [d1, cond_false, d2, cond_true, Option.bind_some, cond_false, cond_true]
      exact alive_A
    · by_cases h0 : 0 ≤ x
      · exact law_in (m := x) (s := 43) h0 (by omega) (.inl ⟨rfl, rfl⟩) (by unfold digitsF; rw [if_pos ⟨h0, by show x ≤ 180000; omega⟩])
      · exact law_in (m := -x) (s := 45) (by omega) (by omega) (.inr ⟨by omega, rfl⟩) (by unfold digitsF; rw [if_neg (by intro h; exact h0 h.1), if_pos ⟨by show -180000 ≤ x; omega, by show x < 0; omega⟩])
end Go.Proofs.YtadamegddcadcaaDoorPi
