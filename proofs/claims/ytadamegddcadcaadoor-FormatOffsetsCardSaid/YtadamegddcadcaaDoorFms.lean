import Derived.Test.YtadamegddcadcaaDoorFnD
import Derived.Test.YtadamegddcadcaaDoorSort
import Derived.KernelRfl
import Derived.Test.YtadamegddcadcaaDoorDen
import Derived.Test.YtadamegddcadcaaDoorPiB
import Derived.DataShut
set_option linter.unusedVariables false
namespace Go.Proofs.YtadamegddcadcaaDoorPi
open Go Go.Proofs Go.RowKit
set_option maxRecDepth 100000
set_option maxHeartbeats 1000000
set_option linter.unusedVariables false

theorem w8_id {x : Int} (h0 : 0 ≤ x) (h1 : x < 256) : w8 x = x := by
  show IntKind.wrap .u8 x = x
  unfold IntKind.wrap
  have e1 : IntKind.signed .u8 = false := rfl
  have e2 : IntKind.bits .u8 = 8 := rfl
  simp only [e1, e2, Bool.false_and, Bool.false_eq_true, if_false]
  omega

def lowr (e : Int) : Int := w8 (((BitVec.ofInt (IntKind.bits .u8) e) ||| (BitVec.ofInt (IntKind.bits .u8) (32 : Int))).toNat : Int)
def okc (e : Int) : Bool := (decide (97 ≤ lowr e) && (decide (lowr e ≤ 122) && decide (e < 128))) || ((decide (48 ≤ e) && decide (e ≤ 57)) || ((e == 43) || (e == 45)))

theorem plain_step {n : Nat} {k0 : format_Plain_t0 → Option (Bool × Unit)} {r2 : format_Plain_t2 → Option (Bool × Unit)} {s : ByteArray} {bs : List Int} {i : Nat} {e : Int} (hi : bs[i]? = some e) (hb : bs.length < 1000000000000) :
    format_Plain_s2 n k0 r2 (s, bs, (bs.length : Int), (i : Int)) = bif okc e then r2 (s, bs, (bs.length : Int), ((i + 1 : Nat) : Int)) else some (false, ()) := by
  have hlt : i < bs.length := (List.getElem?_eq_some_iff.1 hi).1
  have h1 : decide ((i : Int) < (bs.length : Int)) = true := by simp; omega
  have h2 : decide (0 ≤ (i : Int)) = true := by simp
  have h3 : w64 ((i : Int) + 1) = ((i + 1 : Nat) : Int) := by rw [w64_id (by omega) (by omega)]; rfl
  simp only [format_Plain_s2, format_Plain_p2, format_Plain_s3, format_Plain_p3, format_Plain_s4, format_Plain_p4, format_Plain_s5, format_Plain_p5]
  rw [h1, h2, cond_true, cond_true, Int.toNat_natCast, hi, Option.bind_some, h3]
  unfold okc lowr
  generalize decide (97 ≤ w8 _) = c1
  generalize decide (w8 _ ≤ 122) = c2
  generalize decide (e < 128) = c3
  generalize decide (48 ≤ e) = c4
  generalize decide (e ≤ 57) = c5
  generalize (e == 43) = c6
  generalize (e == 45) = c7
  cases c1 <;> cases c2 <;> cases c3 <;> cases c4 <;> cases c5 <;> cases c6 <;> cases c7 <;> rfl

theorem plain_fin (n : Nat) (s : ByteArray) : format_Plain_s0 n s = some (decide (3 ≤ s.size ∧ s.size ≤ 6), ()) := by
  simp only [format_Plain_s0, format_Plain_p0]
  by_cases h3 : 3 ≤ s.size
  · have : decide ((s.size : Int) ≥ 3) = true := by simp; omega
    rw [this, cond_true]
    congr 2
    apply decide_eq_decide.2
    omega
  · have : decide ((s.size : Int) ≥ 3) = false := by simp; omega
    rw [this, cond_false]
    congr 2
    symm
    simp; omega

theorem plain_end {n : Nat} {k0 : format_Plain_t0 → Option (Bool × Unit)} {r2 : format_Plain_t2 → Option (Bool × Unit)} {s : ByteArray} {bs : List Int} {i : Nat} (hi : bs.length ≤ i) :
    format_Plain_s2 n k0 r2 (s, bs, (bs.length : Int), (i : Int)) = k0 s := by
  have h1 : decide ((i : Int) < (bs.length : Int)) = false := by simp; omega
  simp only [format_Plain_s2, format_Plain_p2]
  rw [h1, cond_false]

def plainB (s : ByteArray) : Bool := (bytesOf s).all okc && decide (3 ≤ s.size ∧ s.size ≤ 6)

theorem plain_loop {n : Nat} {s : ByteArray} {bs : List Int} (hb : bs.length < 1000000000000) : ∀ (k : Nat) (i : Nat), i ≤ bs.length → bs.length < k + i →
    rounds (fun r2 x' => format_Plain_s2 n (format_Plain_s0 n) r2 x') k (s, bs, (bs.length : Int), (i : Int)) = some ((bs.drop i).all okc && decide (3 ≤ s.size ∧ s.size ≤ 6), ())
  | 0, i, h0, h => by omega
  | k + 1, i, h0, h => by
    show format_Plain_s2 n (format_Plain_s0 n) (rounds (fun r2 x' => format_Plain_s2 n (format_Plain_s0 n) r2 x') k) (s, bs, (bs.length : Int), (i : Int)) = _
    by_cases hi : i < bs.length
    · rw [plain_step (List.getElem?_eq_getElem hi) hb, plain_loop hb k (i + 1) (by omega) (by omega)]
      rw [List.drop_eq_getElem_cons hi, List.all_cons]
      cases okc bs[i] <;> rfl
    · rw [plain_end (by omega), plain_fin, List.drop_eq_nil_of_le (by omega)]
      rfl

theorem plain_val {n : Nat} {s : ByteArray} (hs : s.size < n) (hb : s.size < 1000000000000) : format_Plain n (s, ()) = some (plainB s, ()) := by
  have hl := bytesOf_length s
  show rounds (fun r2 x' => format_Plain_s2 n (format_Plain_s0 n) r2 x') n (s, bytesOf s, ((bytesOf s).length : Int), ((0 : Nat) : Int)) = _
  rw [plain_loop (by omega) n 0 (by omega) (by omega)]
  rfl
/-- A string's bytes. -/
abbrev dl (s : ByteArray) : List UInt8 := s.data.toList
theorem dl_length (s : ByteArray) : (dl s).length = s.size := by show s.data.toList.length = _; rw [Array.length_toList]; rfl
theorem dl_ext {s t : ByteArray} (h : dl s = dl t) : s = t := by
  cases s; cases t; congr 1; exact Array.ext' h
theorem dl_bs (l : List UInt8) : dl (bs l) = l := by simp [dl, bs]
theorem dl_append (s t : ByteArray) : dl (s ++ t) = dl s ++ dl t := by simp [dl]
theorem dl_extract (s : ByteArray) (i j : Nat) : dl (s.extract i j) = ((dl s).drop i).take (j - i) := by
  simp [dl, ByteArray.data_extract, Array.toList_extract, List.extract]
theorem size_append (s t : ByteArray) : (s ++ t).size = s.size + t.size := by rw [← dl_length, ← dl_length, ← dl_length, dl_append, List.length_append]
theorem toList_dl (s : ByteArray) : s.toList = dl s := by simp [ByteArray.toList_eq]

theorem replace_one {s old new : List UInt8} {i : Nat} (hne : old ≠ []) (h : Lib.index s old = i) : Lib.replace s old new 1 = s.take i ++ new ++ s.drop (i + old.length) := by
  unfold Lib.replace
  by_cases e : old = new
  · rw [if_pos (by rw [e]; exact beq_self_eq_true _), ← e]
    have hs := Lib.index_spec s old
    have hr := Lib.index_room s old (by omega)
    have hoc : Lib.occAt s old i = true := by
      rcases hs with ⟨h1, _⟩ | ⟨j, h1, _, h3, _⟩
      · omega
      · have : j = i := by omega
        rw [← this]; exact h3
    rw [Lib.occAt_iff_take s old i (by omega)] at hoc
    have ho := beq_iff_eq.1 hoc
    conv => lhs; rw [← List.take_append_drop i s, ← List.take_append_drop old.length (s.drop i), ho, List.drop_drop]
    rw [List.append_assoc]
  · rw [if_neg (by simpa using e)]
    have hc := Lib.count_hit hne h
    have hn : Lib.replaceNum s old 1 = 1 := by unfold Lib.replaceNum; rw [if_neg (by omega)]; rfl
    rw [hn, Lib.replaceK_hit old new 0 s i h]
    rfl

/-- A piece is replaced by another one. -/
theorem rep_eq {s o l : ByteArray} {i : Nat} (ho : 1 ≤ o.size) (h : Lib.index (dl s) (dl o) = i) : bs (Lib.replace (dl s) (dl o) (dl l) 1) = s.extract 0 i ++ l ++ s.extract (i + o.size) s.size := by
  apply dl_ext
  rw [dl_bs, replace_one (i := i) (by intro e; have := dl_length o; rw [e] at this; simp at this; omega) h, dl_append, dl_append, dl_extract, dl_extract, List.drop_zero, Nat.sub_zero]
  congr 1
  have h1 := dl_length s
  have h2 := dl_length o
  rw [h2]
  symm
  apply List.take_of_length_le
  rw [List.length_drop]; omega
theorem ext_size {s : ByteArray} {i j : Nat} : (s.extract i j).size ≤ s.size := by
  have := dl_length (s.extract i j)
  rw [dl_extract, List.length_take, List.length_drop, dl_length] at this
  omega
theorem rep_size {s o l : ByteArray} {i : Nat} (hi : i ≤ s.size) : (s.extract 0 i ++ l ++ s.extract (i + o.size) s.size).size ≤ s.size + l.size := by
  rw [size_append, size_append]
  have a := dl_length (s.extract 0 i)
  have b := dl_length (s.extract (i + o.size) s.size)
  rw [dl_extract, List.length_take, List.length_drop, dl_length] at a b
  omega
theorem count_le1 (s o : ByteArray) : Lib.countB s o ≤ s.size + 1 := by
  have := Lib.count_le s.data.toList o.data.toList
  have h := dl_length s
  show Lib.count _ _ ≤ _
  unfold dl at h
  omega
theorem replaceF_val {n : Nat} {s o l : ByteArray} {i : Nat} (hs : s.size ≤ 200) (hl : l.size ≤ 200) (ho : 1 ≤ o.size) (h : Lib.index (dl s) (dl o) = i) :
    replaceF n (s, (o, (l, ((1 : Int), ())))) = some (s.extract 0 i ++ l ++ s.extract (i + o.size) s.size, ()) := by
  unfold replaceF
  have hc := count_le1 s o
  have hm : Lib.countB s o * l.size ≤ 201 * 200 := Nat.mul_le_mul (by omega) hl
  have c1 : s.size < 4294967281 := by omega
  have c2 : s.size + Lib.countB s o * l.size ≤ 140737488355328 := by omega
  rw [if_pos ⟨c1, ho, c2⟩]
  show some (bs (Lib.replace (dl s) (dl o) (dl l) 1), ()) = _
  rw [rep_eq ho h]
theorem containsF_val {n : Nat} {s o : ByteArray} (hs : s.size ≤ 200) : containsF n (s, (o, ())) = some (decide (0 ≤ Lib.index (dl s) (dl o)), ()) := by
  unfold containsF
  have c1 : s.size < 4294967281 := by omega
  rw [if_pos c1]
  rfl
theorem cutF_val {n : Nat} {s o : ByteArray} (hs : s.size ≤ 200) : cutF n (s, (o, ())) = some (bs (Lib.cut (dl s) (dl o)).1, (bs (Lib.cut (dl s) (dl o)).2.1, ((Lib.cut (dl s) (dl o)).2.2, ()))) := by
  unfold cutF
  have c1 : s.size < 4294967281 := by omega
  rw [if_pos c1]
theorem bs_dl (s : ByteArray) : bs (dl s) = s := dl_ext (dl_bs _)

abbrev pS : ByteArray := ⟨#[37, 115]⟩
abbrev pZ : ByteArray := ⟨#[37, 122]⟩
abbrev pC : ByteArray := ⟨#[47]⟩

end Go.Proofs.YtadamegddcadcaaDoorPi

namespace Go.Proofs.YtadamegddcadcaaDoorPi
open Go Go.Proofs Go.RowKit
set_option maxRecDepth 100000
set_option maxHeartbeats 1000000
set_option linter.unusedVariables false

theorem ofBytes_size (xs : List Int) : (ofBytes xs).size = xs.length := by
  show (ofBytes xs).data.size = _
  simp [ofBytes]
theorem digL_len (s m : Int) : (digL s m).length ≤ 7 := by
  unfold digL two2
  simp only [List.length_cons, List.length_append]
  split <;> split <;> simp
/-- What an abbreviation's answer may be. -/
def AbbrQ (v : ByteArray × (Int × Unit)) : Prop := (v.2.1 = 0 ∧ plainB v.1 = true) ∨ ((v.2.1 = 15 ∨ v.2.1 = 1) ∧ v.1 = (⟨#[]⟩ : ByteArray))
theorem eAbbr {n : Nat} (hn : 1000000 ≤ n) {f l : ByteArray} {off : Int} {dst : Bool} (hf : f.size ≤ 200) (hl : l.size ≤ 200) : Ok (format_Abbr n (f, (l, (off, (dst, ()))))) AbbrQ := by
  have fin : ∀ d : ByteArray, d.size ≤ 400 → Ok (format_Abbr_s0 n d) AbbrQ := fun d hd => by
    unfold format_Abbr_s0 format_Abbr_p0
    rw [plain_val (by omega) (by omega), Option.bind_some]
    cases hp : plainB d with
    | true => exact Ok.ret (.inl ⟨rfl, hp⟩)
    | false => exact Ok.ret (.inr ⟨.inl rfl, rfl⟩)
  unfold format_Abbr format_Abbr_px
  refine Ok.dec (fun _ => Ok.ret (.inr ⟨.inr rfl, rfl⟩)) (fun o1 => Ok.dec (fun _ => Ok.ret (.inr ⟨.inr rfl, rfl⟩)) (fun o2 => ?_))
  rw [cutF_val hf, Option.bind_some, containsF_val hf, Option.bind_some]
  have rS := Lib.index_room (dl f) (dl pS)
  have rZ := Lib.index_room (dl f) (dl pZ)
  have rC := Lib.index_room (dl f) (dl pC)
  have zf := dl_length f
  refine Ok.dec (fun hS => ?_) (fun hS => ?_)
  · obtain ⟨i, hi⟩ := Int.eq_ofNat_of_zero_le hS
    have hr := rS hS
    have hi : Lib.index (dl f) (dl pS) = (i : Int) := hi
    rw [replaceF_val (i := i) hf hl (by show 1 ≤ 2; omega) hi, Option.bind_some]
    exact fin _ (by have := rep_size (s := f) (o := pS) (l := l) (i := i) (by omega); exact Nat.le_trans this (by omega))
  rw [containsF_val hf, Option.bind_some]
  refine Ok.dec (fun hZ => ?_) (fun hZ => ?_)
  · obtain ⟨i, hi⟩ := Int.eq_ofNat_of_zero_le hZ
    have hr := rZ hZ
    have hi : Lib.index (dl f) (dl pZ) = (i : Int) := hi
    have o1' : -180000 ≤ off := by have o1 : ¬ off < -180000 := o1; omega
    have o2' : off ≤ 180000 := by have o2 : ¬ off > 180000 := o2; omega
    obtain ⟨d, hd, hds⟩ : ∃ d, digitsF n (off, ()) = some (d, ()) ∧ d.size ≤ 7 := by
      unfold digitsF
      by_cases h0 : 0 ≤ off
      · rw [if_pos ⟨h0, o2'⟩]; exact ⟨_, rfl, by rw [ofBytes_size]; exact digL_len _ _⟩
      · rw [if_neg (fun q => h0 q.1), if_pos ⟨o1', by show off < 0; omega⟩]; exact ⟨_, rfl, by rw [ofBytes_size]; exact digL_len _ _⟩
    rw [hd, Option.bind_some, replaceF_val (l := d) (i := i) hf (by omega) (by show 1 ≤ 2; omega) hi, Option.bind_some]
    exact fin _ (by have := rep_size (s := f) (o := pZ) (l := d) (i := i) (by omega); exact Nat.le_trans this (by omega))
  have c1 : (bs (Lib.cut (dl f) (dl pC)).1).size ≤ f.size := by
    rw [← dl_length, dl_bs, ← zf]
    unfold Lib.cut
    split
    · rw [List.length_take]; omega
    · exact Nat.le_refl _
  have c2 : (bs (Lib.cut (dl f) (dl pC)).2.1).size ≤ f.size := by
    rw [← dl_length, dl_bs, ← zf]
    unfold Lib.cut
    split
    · rw [List.length_drop]; omega
    · exact Nat.zero_le _
  have f1 := fin (bs (Lib.cut (dl f) (dl pC)).1) (by omega)
  have f2 := fin (bs (Lib.cut (dl f) (dl pC)).2.1) (by omega)
  have f3 := fin f (by omega)
  exact Ok.bif (fun _ => Ok.bif (fun _ => f2) (fun _ => Ok.bif (fun _ => f1) (fun _ => f3))) (fun _ => Ok.bif (fun _ => f1) (fun _ => f3))

abbrev zLocal : D_api_Local := ((0 : Int), (false, ((⟨#[]⟩ : ByteArray), ())))
/-- What an era's and a state's answer may be. -/
def OfQ (e : D_api_Era) (s : D_noonmarkref15_State) (v : D_api_Local × (Int × Unit)) : Prop :=
  (v.2.1 = 0 ∧ v.1.1 = w64 (e.1 + s.2.1) ∧ v.1.2.1 = (s.2.1 != 0) ∧ plainB v.1.2.2.1 = true) ∨ ((v.2.1 = 15 ∨ v.2.1 = 1) ∧ v.1 = zLocal)
theorem eOf {n : Nat} (hn : 1000000 ≤ n) {e : D_api_Era} {s : D_noonmarkref15_State} (hf : e.2.2.2.2.1.size ≤ 200) (hl : s.2.2.1.size ≤ 200) : Ok (format_Of n (e, (s, ()))) (OfQ e s) := by
  unfold format_Of format_Of_px
  refine Ok.bind (eAbbr hn hf hl) fun v hv => ?_
  rw [cb_ne]
  rcases hv with ⟨h0, hp⟩ | ⟨h0, hz⟩
  · rw [if_pos h0]
    exact Ok.ret (.inl ⟨h0, rfl, rfl, hp⟩)
  · rw [if_neg (by omega)]
    exact Ok.ret (.inr ⟨h0, rfl⟩)
theorem alive16 : noonmarklaw16_alive 1000000 () = some (true, ()) := by kernel_rfl
theorem zLocal_eq : eqD T_api_Local zLocal zLocal = true := by decide
/-- The law. -/
theorem formatOffsets_pure (z : D_noonmarkref15_Zone) (t : Int) (u : Unit) (t0 : -9223372036854775808 ≤ t) (t1 : t ≤ 9223372036854775807) : noonmarklaw16_FormatOffsets 1000000 (z, (t, u)) = some (true, ()) := by
  have hn : 1000000 ≤ (1000000 : Nat) := Nat.le_refl _
  unfold noonmarklaw16_FormatOffsets noonmarklaw16_FormatOffsets_px
  obtain ⟨v, hv, hq⟩ := light15 hn z
  simp only [hv, Option.bind_some, alive16]
  cases hvb : v.1
  · rfl
  simp only [Bool.not_true, cond_false]
  have hz := hq hvb
  obtain ⟨a, ha, haq⟩ := eAt hn hz t0 t1
  simp only [own_eq, Option.bind_some, ha, format_At, format_At_px]
  simp only [cb_ne, cb_eq]
  rcases haq with ⟨hk, hs⟩ | ⟨hk, hle, e0, e1, _, _⟩
  · simp only [if_neg hk, Option.bind_some, if_true]
    rw [zLocal_eq]; rfl
  · have hlt : Int.toNat a.1.1 < z.1.length := by omega
    have hget : z.1[Int.toNat a.1.1]? = some z.1[Int.toNat a.1.1] := List.getElem?_eq_getElem hlt
    have hE := hz.2.2.1 _ (List.getElem_mem hlt)
    obtain ⟨w, hw, hwq⟩ := eOf hn (e := z.1[Int.toNat a.1.1]) (s := a.1) (by have := hE.2.2.2.2.2.2; omega) (by omega)
    simp only [if_pos hk, hget, Option.bind_some, decide_eq_true e0, cond_true, hw]
    rcases hwq with ⟨h0, h1, h2, h3⟩ | ⟨h0, h1⟩
    · have hsz : w.1.2.2.1.size ≤ 6 := by
        unfold plainB at h3
        rw [Bool.and_eq_true] at h3
        exact (of_decide_eq_true h3.2).2
      have hp : format_Plain 1000000 (w.1.2.2.1, ()) = some (true, ()) := by rw [plain_val (by omega) (by omega), h3]
      simp only [if_pos h0, decide_eq_true e1, cond_true, h1, if_true, h2, hp, Option.bind_some]
      simp
    · rw [if_neg (show ¬ w.2.1 = 0 by omega)]
      rcases h0 with h0 | h0
      · simp only [if_pos h0, h1, zLocal_eq, cond_true]
      · rw [if_neg (show ¬ w.2.1 = 15 by omega), if_pos h0, h1, zLocal_eq]; rfl
theorem i64_range {t : Int} (h : (Lit.int .i64 t).wf = true) : -9223372036854775808 ≤ t ∧ t ≤ 9223372036854775807 := by
  have := (Go.Lit.wf_int_iff .i64 t).1 h
  have e1 : IntKind.min .i64 = -9223372036854775808 := by decide
  have e2 : IntKind.max .i64 = 9223372036854775807 := by decide
  omega
theorem formatOffsets_good (x : noonmarklaw16_FormatOffsets_ps.den) (gx : goods noonmarklaw16_FormatOffsets_ps x) : noonmarklaw16_FormatOffsets 1000000 x = some (true, ()) :=
  formatOffsets_pure x.1 x.2.1 x.2.2 (i64_range gx.2.1).1 (i64_range gx.2.1).2
end Go.Proofs.YtadamegddcadcaaDoorPi
