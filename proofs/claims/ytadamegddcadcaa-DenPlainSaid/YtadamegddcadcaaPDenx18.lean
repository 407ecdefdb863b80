import Derived.Test.YtadamegddcadcaaPDenx0
import Derived.Test.YtadamegddcadcaaPDenx1
import Derived.Test.YtadamegddcadcaaPDenx17
namespace Go.Proofs.Ytadamegddcadcaa.PDen
open Go.Proofs.YtadamegddcadcaaV Go.RowKit Go.Proofs.YtadamegddcadcaaW.PrintWords Go.Proofs.YtadamegddcadcaaW.PrintLast Go.Proofs.YtadamegddcadcaaW.PrintMore
attribute [local go_sem] max2_int min2_int max_two min_two max_three min_three max_four min_four
set_option linter.unusedVariables false
set_option linter.unusedSimpArgs false
attribute [local go_sem high] eqA29
mutual
def noonmarklaw15_DenPlain.j0 : Nat → Int → Int → Int → Bool → Int → Int → Int → ByteArray → ByteArray → Bool → Int → Int → Int → Int → Int → Int → Int → Option (Bool)
 | 0, _, _, _, _, _, _, _, _, _, _, _, _, _, _, _, _, _ => none
 | k + 1, x0, x1, x2, x3, x289000, x289001, x289002, x289003, x289004, x289005, x289006, x289007, x289008, x289009, x289010, x289011, x289012 => (den_At.f k (([(⟨x289000, x289001, x289002, x289003, x289004, (⟨x289005, x289006, x289007, (⟨x289008, x289009, x289010⟩ : S42), (⟨x289011, x289012⟩ : S44)⟩ : S46)⟩ : S48)] : List (S48))) (([[]] : List (List (S53)))) x2).bind fun bt296 => (if x0 < (-86400) then (noonmarklaw15_DenPlain.j1 k x1 x3 bt296.2.2.2 true bt296.1 bt296.2.1 bt296.2.2.1) else (if x0 > 86400 then (noonmarklaw15_DenPlain.j1 k x1 x3 bt296.2.2.2 true bt296.1 bt296.2.1 bt296.2.2.1) else (if x3 = true then (if x1 < (-86400) then (noonmarklaw15_DenPlain.j1 k x1 x3 bt296.2.2.2 true bt296.1 bt296.2.1 bt296.2.2.1) else (noonmarklaw15_DenPlain.j1 k x1 x3 bt296.2.2.2 (decide (x1 > 86400)) bt296.1 bt296.2.1 bt296.2.2.1)) else (noonmarklaw15_DenPlain.j1 k x1 x3 bt296.2.2.2 false bt296.1 bt296.2.1 bt296.2.2.1))))
def noonmarklaw15_DenPlain.j1 : Nat → Int → Bool → Int → Bool → Int → Int → ByteArray → Option (Bool)
 | 0, _, _, _, _, _, _, _ => none
 | k + 1, x1, x3, x12, x13, x301000, x301001, x301002 => if x13 = true then (if x12 = 1 then (if (x301000 == 0 && (x301001 == 0 && (x301002.toList == ([] : List UInt8)))) = true then ((noonmarklaw15_alive.f k).bind fun t301 => (some t301)) else (some false)) else (some false)) else (if x12 = 0 then (if x3 = true then (if (x301000 == 0 && (x301001 == x1 && (x301002.toList == ([] : List UInt8)))) = true then ((noonmarklaw15_alive.f k).bind fun t303 => (some t303)) else (some false)) else (if (x301000 == 0 && (x301001 == 0 && (x301002.toList == ([] : List UInt8)))) = true then ((noonmarklaw15_alive.f k).bind fun t304 => (some t304)) else (some false))) else (if x12 = 2 then ((noonmarklaw15_alive.f k).bind fun t302 => (some t302)) else (some false)))
end
def noonmarklaw15_DenPlain.f (k : Nat) (a0 : Int) (a1 : Int) (a2 : Int) (a3 : Bool) : Option (Bool) := if a3 = true then (noonmarklaw15_DenPlain.j0 k a0 a1 a2 a3 a0 1 a1 (⟨#[]⟩ : ByteArray) (⟨#[88]⟩ : ByteArray) false 0 0 0 0 0 0 0) else (noonmarklaw15_DenPlain.j0 k a0 a1 a2 a3 a0 0 a1 (⟨#[]⟩ : ByteArray) (⟨#[88]⟩ : ByteArray) false 0 0 0 0 0 0 0)
theorem noonmarklaw15_DenPlain.mono_l : ∀ k, (∀ y0 y1 y2 y3 y4 y5 y6 y7 y8 y9 y10 y11 y12 y13 y14 y15 y16, LeO (noonmarklaw15_DenPlain.j0 k y0 y1 y2 y3 y4 y5 y6 y7 y8 y9 y10 y11 y12 y13 y14 y15 y16) (noonmarklaw15_DenPlain.j0 (k + 1) y0 y1 y2 y3 y4 y5 y6 y7 y8 y9 y10 y11 y12 y13 y14 y15 y16)) ∧ (∀ y0 y1 y2 y3 y4 y5 y6, LeO (noonmarklaw15_DenPlain.j1 k y0 y1 y2 y3 y4 y5 y6) (noonmarklaw15_DenPlain.j1 (k + 1) y0 y1 y2 y3 y4 y5 y6))
 | 0 => ⟨fun _ _ _ _ _ _ _ _ _ _ _ _ _ _ _ _ _ r h => by simp [noonmarklaw15_DenPlain.j0] at h, fun _ _ _ _ _ _ _ r h => by simp [noonmarklaw15_DenPlain.j1] at h⟩
 | k + 1 => by
  obtain ⟨ih0, ih1⟩ := noonmarklaw15_DenPlain.mono_l k
  refine ⟨?_, ?_⟩
  ·intro y0 y1 y2 y3 y4 y5 y6 y7 y8 y9 y10 y11 y12 y13 y14 y15 y16
   unfold noonmarklaw15_DenPlain.j0
   repeat' first
   | (with_reducible exact ih0 _ _ _ _ _ _ _ _ _ _ _ _ _ _ _ _ _)
   | (with_reducible exact ih1 _ _ _ _ _ _ _)
   | (with_reducible exact den_At.mono _ _ _ _)
   | (with_reducible exact noonmarklaw15_alive.mono _)
   | (with_reducible exact LeO.refl _)
   | (with_reducible exact LeO.none _)
   | (with_reducible refine LeO.ite ?_ ?_)
   | (with_reducible refine LeO.bind ?_ (fun _ => ?_))
   | exact ih0 _ _ _ _ _ _ _ _ _ _ _ _ _ _ _ _ _
   | exact ih1 _ _ _ _ _ _ _
   | exact den_At.mono _ _ _ _
   | exact noonmarklaw15_alive.mono _
   | exact LeO.none _
   | refine LeO.ite ?_ ?_
   | refine LeO.bind ?_ (fun _ => ?_)
  ·intro y0 y1 y2 y3 y4 y5 y6
   unfold noonmarklaw15_DenPlain.j1
   repeat' first
   | (with_reducible exact ih0 _ _ _ _ _ _ _ _ _ _ _ _ _ _ _ _ _)
   | (with_reducible exact ih1 _ _ _ _ _ _ _)
   | (with_reducible exact den_At.mono _ _ _ _)
   | (with_reducible exact noonmarklaw15_alive.mono _)
   | (with_reducible exact LeO.refl _)
   | (with_reducible exact LeO.none _)
   | (with_reducible refine LeO.ite ?_ ?_)
   | (with_reducible refine LeO.bind ?_ (fun _ => ?_))
   | exact ih0 _ _ _ _ _ _ _ _ _ _ _ _ _ _ _ _ _
   | exact ih1 _ _ _ _ _ _ _
   | exact den_At.mono _ _ _ _
   | exact noonmarklaw15_alive.mono _
   | exact LeO.none _
   | refine LeO.ite ?_ ?_
   | refine LeO.bind ?_ (fun _ => ?_)
theorem noonmarklaw15_DenPlain.mono : ∀ a0 a1 a2 a3 k, LeO (noonmarklaw15_DenPlain.f k a0 a1 a2 a3) (noonmarklaw15_DenPlain.f (k + 1) a0 a1 a2 a3) := by
 intro a0 a1 a2 a3 k
 obtain ⟨ih0, ih1⟩ := noonmarklaw15_DenPlain.mono_l k
 unfold noonmarklaw15_DenPlain.f
 repeat' first
   | (with_reducible exact ih0 _ _ _ _ _ _ _ _ _ _ _ _ _ _ _ _ _)
   | (with_reducible exact ih1 _ _ _ _ _ _ _)
   | (with_reducible exact den_At.mono _ _ _ _)
   | (with_reducible exact noonmarklaw15_alive.mono _)
   | (with_reducible exact LeO.refl _)
   | (with_reducible exact LeO.none _)
   | (with_reducible refine LeO.ite ?_ ?_)
   | (with_reducible refine LeO.bind ?_ (fun _ => ?_))
   | exact ih0 _ _ _ _ _ _ _ _ _ _ _ _ _ _ _ _ _
   | exact ih1 _ _ _ _ _ _ _
   | exact den_At.mono _ _ _ _
   | exact noonmarklaw15_alive.mono _
   | exact LeO.none _
   | refine LeO.ite ?_ ?_
   | refine LeO.bind ?_ (fun _ => ?_)
set_option maxHeartbeats 8000000 in
set_option maxRecDepth 100000 in
theorem noonmarklaw15_DenPlain.calls (k : Nat) (a0 : Int) (a1 : Int) (a2 : Int) (a3 : Bool) (r : Bool) (w : World) (h : noonmarklaw15_DenPlain.f k a0 a1 a2 a3 = some r) :
  Calls Try.prog 5 #[.int .i64 a0, .int .i64 a1, .int .i64 a2, .bool a3] w fun e w' => e = .returned (.bool r) ∧ Below w.heap.size w w' := by
 have hu48 := Try.underlying48
 have hu33 := Try.underlying33
 have hu29 := Try.underlying29
 have HB := aM (Below.refl w.heap.size w)
 have H : (if a3 = true then (noonmarklaw15_DenPlain.j0 k a0 a1 a2 a3 a0 1 a1 (⟨#[]⟩ : ByteArray) (⟨#[88]⟩ : ByteArray) false 0 0 0 0 0 0 0) else (noonmarklaw15_DenPlain.j0 k a0 a1 a2 a3 a0 0 a1 (⟨#[]⟩ : ByteArray) (⟨#[88]⟩ : ByteArray) false 0 0 0 0 0 0 0)) = some r := h
 clear h
 have HC5 := aM H
 clear H
 go_enter Try.func5, Try.ntmps5
 go_upto_if 17 with (first | ((with_reducible refine gate_dst (N := 9) rfl ?_); refine box_event ?hg (N := 9) ?hd (cs := #[.int .i64 0, .int .i64 0, .int .i64 0, .string (⟨#[]⟩ : ByteArray), .string (⟨#[]⟩ : ByteArray), .bool false, .int .i64 0, .int .i64 0, .int .i64 0, .int .i64 0, .int .i64 0, .int .i64 0, .int .i64 0]) (t := 48) ?hr ?_; (case hd => rfl); (case hg => rfl); (case hr => first | (go_simp; done) | (go_simp; rfl)); intro gb288 hg w6 hbox hb; have n0_ := aM (below_step (by repeat (first | (with_reducible first | exact HB.out | apply lA | apply lN | apply lD) | exact HB.out)) hb); have n1_ := aM (hbox); have n2_ := aM ((by rw [hg]; exact (below_size (by repeat (first | (with_reducible first | exact HB.out | apply lA | apply lN | apply lD) | exact HB.out))) : w.heap.size ≤ gb288)); have n3_ := aM ((by rw [hg]; exact (below_size (by repeat (first | (with_reducible first | exact HB.out | apply lA | apply lN | apply lD) | exact HB.out))) : w.heap.size ≤ gb288)); clear HB; have HB := n0_; have BK288 := n1_; have GW288 := n2_; have GE288 := n3_; clear n0_ n1_ n2_ n3_; clear hb hbox hg; obtain ⟨hcz7_0, hcz7_1, hcz7_2, hcz7_3, hcz7_4, hcz7_5, hcz7_6, hcz7_7, hcz7_8, hcz7_9, hcz7_10, hcz7_11, hcz7_12⟩ := blkC13 BK288.out; obtain ⟨hfz7_0, hfz7_1, hfz7_2, hfz7_3, hfz7_4, hfz7_5, hfz7_6, hfz7_7, hfz7_8, hfz7_9, hfz7_10, hfz7_11, hfz7_12⟩ := blkF13 BK288.out))
 (try simp only [Act.put, sA, sZ, sS])
 go_cut [] (fun wc => ∃ (kq : Nat) (x289001_4 : Int), Aside0 (noonmarklaw15_DenPlain.j0 kq a0 a1 a2 a3 a0 x289001_4 a1 (⟨#[]⟩ : ByteArray) (⟨#[88]⟩ : ByteArray) false 0 0 0 0 0 0 0 = some r) ∧ Aside0 (kq ≤ k) ∧ Aside0 (wc.heap[gb288]? = some (.cells #[.int .i64 a0, .int .i64 x289001_4, .int .i64 a1, .string (⟨#[]⟩ : ByteArray), .string (⟨#[88]⟩ : ByteArray), .bool false, .int .i64 0, .int .i64 0, .int .i64 0, .int .i64 0, .int .i64 0, .int .i64 0, .int .i64 0] 48 (0, 0))) ∧ Aside0 (Below w.heap.size w wc))
 case first =>
  have H := HC5.out
  clear HC5
  by_cases c8 : a3 = true
  ·subst c8
   have H1 : (noonmarklaw15_DenPlain.j0 k a0 a1 a2 true a0 1 a1 (⟨#[]⟩ : ByteArray) (⟨#[88]⟩ : ByteArray) false 0 0 0 0 0 0 0) = some r := by rw [if_pos rfl] at H; exact H
   clear H
   have H := H1
   clear H1
   have H' := aM H
   clear H
   obtain ⟨hcz9_0, hcz9_1, hcz9_2, hcz9_3, hcz9_4, hcz9_5, hcz9_6, hcz9_7, hcz9_8, hcz9_9, hcz9_10, hcz9_11, hcz9_12⟩ := blkC13 BK288.out
   obtain ⟨hfz9_0, hfz9_1, hfz9_2, hfz9_3, hfz9_4, hfz9_5, hfz9_6, hfz9_7, hfz9_8, hfz9_9, hfz9_10, hfz9_11, hfz9_12⟩ := blkF13 BK288.out
   go_wp2
   go_meet
   case rel => exact ⟨_, (1), H', ⟨by first | omega | exact Nat.le_refl _⟩, ⟨by (with_reducible repeat first | apply bN | apply bD | apply bA); refine blk_put (cs := #[.int .i64 a0, .int .i64 0, .int .i64 a1, .string (⟨#[]⟩ : ByteArray), .string (⟨#[88]⟩ : ByteArray), .bool false, .int .i64 0, .int .i64 0, .int .i64 0, .int .i64 0, .int .i64 0, .int .i64 0, .int .i64 0]) ?_ 1 _ rfl; (with_reducible repeat first | apply bN | apply bD | apply bA); refine blk_put (cs := #[.int .i64 a0, .int .i64 0, .int .i64 a1, .string (⟨#[]⟩ : ByteArray), .string (⟨#[88]⟩ : ByteArray), .bool false, .int .i64 0, .int .i64 0, .int .i64 0, .int .i64 0, .int .i64 0, .int .i64 0, .int .i64 0]) ?_ 12 _ rfl; (with_reducible repeat first | apply bN | apply bD | apply bA); refine blk_put (cs := #[.int .i64 a0, .int .i64 0, .int .i64 a1, .string (⟨#[]⟩ : ByteArray), .string (⟨#[88]⟩ : ByteArray), .bool false, .int .i64 0, .int .i64 0, .int .i64 0, .int .i64 0, .int .i64 0, .int .i64 0, .int .i64 0]) ?_ 11 _ rfl; (with_reducible repeat first | apply bN | apply bD | apply bA); refine blk_put (cs := #[.int .i64 a0, .int .i64 0, .int .i64 a1, .string (⟨#[]⟩ : ByteArray), .string (⟨#[88]⟩ : ByteArray), .bool false, .int .i64 0, .int .i64 0, .int .i64 0, .int .i64 0, .int .i64 0, .int .i64 0, .int .i64 0]) ?_ 10 _ rfl; (with_reducible repeat first | apply bN | apply bD | apply bA); refine blk_put (cs := #[.int .i64 a0, .int .i64 0, .int .i64 a1, .string (⟨#[]⟩ : ByteArray), .string (⟨#[88]⟩ : ByteArray), .bool false, .int .i64 0, .int .i64 0, .int .i64 0, .int .i64 0, .int .i64 0, .int .i64 0, .int .i64 0]) ?_ 9 _ rfl; (with_reducible repeat first | apply bN | apply bD | apply bA); refine blk_put (cs := #[.int .i64 a0, .int .i64 0, .int .i64 a1, .string (⟨#[]⟩ : ByteArray), .string (⟨#[88]⟩ : ByteArray), .bool false, .int .i64 0, .int .i64 0, .int .i64 0, .int .i64 0, .int .i64 0, .int .i64 0, .int .i64 0]) ?_ 8 _ rfl; (with_reducible repeat first | apply bN | apply bD | apply bA); refine blk_put (cs := #[.int .i64 a0, .int .i64 0, .int .i64 a1, .string (⟨#[]⟩ : ByteArray), .string (⟨#[88]⟩ : ByteArray), .bool false, .int .i64 0, .int .i64 0, .int .i64 0, .int .i64 0, .int .i64 0, .int .i64 0, .int .i64 0]) ?_ 7 _ rfl; (with_reducible repeat first | apply bN | apply bD | apply bA); refine blk_put (cs := #[.int .i64 a0, .int .i64 0, .int .i64 a1, .string (⟨#[]⟩ : ByteArray), .string (⟨#[88]⟩ : ByteArray), .bool false, .int .i64 0, .int .i64 0, .int .i64 0, .int .i64 0, .int .i64 0, .int .i64 0, .int .i64 0]) ?_ 6 _ rfl; (with_reducible repeat first | apply bN | apply bD | apply bA); refine blk_put (cs := #[.int .i64 a0, .int .i64 0, .int .i64 a1, .string (⟨#[]⟩ : ByteArray), .string (⟨#[88]⟩ : ByteArray), .bool false, .int .i64 0, .int .i64 0, .int .i64 0, .int .i64 0, .int .i64 0, .int .i64 0, .int .i64 0]) ?_ 5 _ rfl; (with_reducible repeat first | apply bN | apply bD | apply bA); refine blk_put (cs := #[.int .i64 a0, .int .i64 0, .int .i64 a1, .string (⟨#[]⟩ : ByteArray), .string (⟨#[]⟩ : ByteArray), .bool false, .int .i64 0, .int .i64 0, .int .i64 0, .int .i64 0, .int .i64 0, .int .i64 0, .int .i64 0]) ?_ 4 _ rfl; (with_reducible repeat first | apply bN | apply bD | apply bA); refine blk_put (cs := #[.int .i64 a0, .int .i64 0, .int .i64 a1, .string (⟨#[]⟩ : ByteArray), .string (⟨#[]⟩ : ByteArray), .bool false, .int .i64 0, .int .i64 0, .int .i64 0, .int .i64 0, .int .i64 0, .int .i64 0, .int .i64 0]) ?_ 3 _ rfl; (with_reducible repeat first | apply bN | apply bD | apply bA); refine blk_put (cs := #[.int .i64 a0, .int .i64 0, .int .i64 0, .string (⟨#[]⟩ : ByteArray), .string (⟨#[]⟩ : ByteArray), .bool false, .int .i64 0, .int .i64 0, .int .i64 0, .int .i64 0, .int .i64 0, .int .i64 0, .int .i64 0]) ?_ 2 _ rfl; (with_reducible repeat first | apply bN | apply bD | apply bA); refine blk_put (cs := #[.int .i64 a0, .int .i64 0, .int .i64 0, .string (⟨#[]⟩ : ByteArray), .string (⟨#[]⟩ : ByteArray), .bool false, .int .i64 0, .int .i64 0, .int .i64 0, .int .i64 0, .int .i64 0, .int .i64 0, .int .i64 0]) ?_ 1 _ rfl; (with_reducible repeat first | apply bN | apply bD | apply bA); refine blk_put (cs := #[.int .i64 0, .int .i64 0, .int .i64 0, .string (⟨#[]⟩ : ByteArray), .string (⟨#[]⟩ : ByteArray), .bool false, .int .i64 0, .int .i64 0, .int .i64 0, .int .i64 0, .int .i64 0, .int .i64 0, .int .i64 0]) ?_ 0 _ rfl; (with_reducible repeat first | apply bN | apply bD | apply bA); exact BK288.out⟩, ⟨by repeat (first | (with_reducible first | exact HB.out | apply lA | apply lN | apply lD | refine lS ?_ GE288.out) | exact HB.out)⟩⟩
  ·replace c8 := Bool.eq_false_iff.mpr c8
   subst c8
   have H1 : (noonmarklaw15_DenPlain.j0 k a0 a1 a2 false a0 0 a1 (⟨#[]⟩ : ByteArray) (⟨#[88]⟩ : ByteArray) false 0 0 0 0 0 0 0) = some r := by rw [if_neg (show ¬ (false = true) by decide)] at H; exact H
   clear H
   have H := H1
   clear H1
   have H' := aM H
   clear H
   go_wp2
   go_meet
   case rel => exact ⟨_, (0), H', ⟨by first | omega | exact Nat.le_refl _⟩, ⟨by (with_reducible repeat first | apply bN | apply bD | apply bA); refine blk_put (cs := #[.int .i64 a0, .int .i64 0, .int .i64 a1, .string (⟨#[]⟩ : ByteArray), .string (⟨#[88]⟩ : ByteArray), .bool false, .int .i64 0, .int .i64 0, .int .i64 0, .int .i64 0, .int .i64 0, .int .i64 0, .int .i64 0]) ?_ 12 _ rfl; (with_reducible repeat first | apply bN | apply bD | apply bA); refine blk_put (cs := #[.int .i64 a0, .int .i64 0, .int .i64 a1, .string (⟨#[]⟩ : ByteArray), .string (⟨#[88]⟩ : ByteArray), .bool false, .int .i64 0, .int .i64 0, .int .i64 0, .int .i64 0, .int .i64 0, .int .i64 0, .int .i64 0]) ?_ 11 _ rfl; (with_reducible repeat first | apply bN | apply bD | apply bA); refine blk_put (cs := #[.int .i64 a0, .int .i64 0, .int .i64 a1, .string (⟨#[]⟩ : ByteArray), .string (⟨#[88]⟩ : ByteArray), .bool false, .int .i64 0, .int .i64 0, .int .i64 0, .int .i64 0, .int .i64 0, .int .i64 0, .int .i64 0]) ?_ 10 _ rfl; (with_reducible repeat first | apply bN | apply bD | apply bA); refine blk_put (cs := #[.int .i64 a0, .int .i64 0, .int .i64 a1, .string (⟨#[]⟩ : ByteArray), .string (⟨#[88]⟩ : ByteArray), .bool false, .int .i64 0, .int .i64 0, .int .i64 0, .int .i64 0, .int .i64 0, .int .i64 0, .int .i64 0]) ?_ 9 _ rfl; (with_reducible repeat first | apply bN | apply bD | apply bA); refine blk_put (cs := #[.int .i64 a0, .int .i64 0, .int .i64 a1, .string (⟨#[]⟩ : ByteArray), .string (⟨#[88]⟩ : ByteArray), .bool false, .int .i64 0, .int .i64 0, .int .i64 0, .int .i64 0, .int .i64 0, .int .i64 0, .int .i64 0]) ?_ 8 _ rfl; (with_reducible repeat first | apply bN | apply bD | apply bA); refine blk_put (cs := #[.int .i64 a0, .int .i64 0, .int .i64 a1, .string (⟨#[]⟩ : ByteArray), .string (⟨#[88]⟩ : ByteArray), .bool false, .int .i64 0, .int .i64 0, .int .i64 0, .int .i64 0, .int .i64 0, .int .i64 0, .int .i64 0]) ?_ 7 _ rfl; (with_reducible repeat first | apply bN | apply bD | apply bA); refine blk_put (cs := #[.int .i64 a0, .int .i64 0, .int .i64 a1, .string (⟨#[]⟩ : ByteArray), .string (⟨#[88]⟩ : ByteArray), .bool false, .int .i64 0, .int .i64 0, .int .i64 0, .int .i64 0, .int .i64 0, .int .i64 0, .int .i64 0]) ?_ 6 _ rfl; (with_reducible repeat first | apply bN | apply bD | apply bA); refine blk_put (cs := #[.int .i64 a0, .int .i64 0, .int .i64 a1, .string (⟨#[]⟩ : ByteArray), .string (⟨#[88]⟩ : ByteArray), .bool false, .int .i64 0, .int .i64 0, .int .i64 0, .int .i64 0, .int .i64 0, .int .i64 0, .int .i64 0]) ?_ 5 _ rfl; (with_reducible repeat first | apply bN | apply bD | apply bA); refine blk_put (cs := #[.int .i64 a0, .int .i64 0, .int .i64 a1, .string (⟨#[]⟩ : ByteArray), .string (⟨#[]⟩ : ByteArray), .bool false, .int .i64 0, .int .i64 0, .int .i64 0, .int .i64 0, .int .i64 0, .int .i64 0, .int .i64 0]) ?_ 4 _ rfl; (with_reducible repeat first | apply bN | apply bD | apply bA); refine blk_put (cs := #[.int .i64 a0, .int .i64 0, .int .i64 a1, .string (⟨#[]⟩ : ByteArray), .string (⟨#[]⟩ : ByteArray), .bool false, .int .i64 0, .int .i64 0, .int .i64 0, .int .i64 0, .int .i64 0, .int .i64 0, .int .i64 0]) ?_ 3 _ rfl; (with_reducible repeat first | apply bN | apply bD | apply bA); refine blk_put (cs := #[.int .i64 a0, .int .i64 0, .int .i64 0, .string (⟨#[]⟩ : ByteArray), .string (⟨#[]⟩ : ByteArray), .bool false, .int .i64 0, .int .i64 0, .int .i64 0, .int .i64 0, .int .i64 0, .int .i64 0, .int .i64 0]) ?_ 2 _ rfl; (with_reducible repeat first | apply bN | apply bD | apply bA); refine blk_put (cs := #[.int .i64 a0, .int .i64 0, .int .i64 0, .string (⟨#[]⟩ : ByteArray), .string (⟨#[]⟩ : ByteArray), .bool false, .int .i64 0, .int .i64 0, .int .i64 0, .int .i64 0, .int .i64 0, .int .i64 0, .int .i64 0]) ?_ 1 _ rfl; (with_reducible repeat first | apply bN | apply bD | apply bA); refine blk_put (cs := #[.int .i64 0, .int .i64 0, .int .i64 0, .string (⟨#[]⟩ : ByteArray), .string (⟨#[]⟩ : ByteArray), .bool false, .int .i64 0, .int .i64 0, .int .i64 0, .int .i64 0, .int .i64 0, .int .i64 0, .int .i64 0]) ?_ 0 _ rfl; (with_reducible repeat first | apply bN | apply bD | apply bA); exact BK288.out⟩, ⟨by repeat (first | (with_reducible first | exact HB.out | apply lA | apply lN | apply lD | refine lS ?_ GE288.out) | exact HB.out)⟩⟩
 case rest =>
  clear HC5
  try clear p2; try clear c5; try clear c8; try clear hcz7_0; try clear hcz7_1; try clear hcz7_10; try clear hcz7_11; try clear hcz7_12; try clear hcz7_2; try clear hcz7_3; try clear hcz7_4; try clear hcz7_5; try clear hcz7_6; try clear hcz7_7; try clear hcz7_8; try clear hcz7_9; try clear hcz9_0; try clear hcz9_1; try clear hcz9_10; try clear hcz9_11; try clear hcz9_12; try clear hcz9_2; try clear hcz9_3; try clear hcz9_4; try clear hcz9_5; try clear hcz9_6; try clear hcz9_7; try clear hcz9_8; try clear hcz9_9; try clear hfz7_0; try clear hfz7_1; try clear hfz7_10; try clear hfz7_11; try clear hfz7_12; try clear hfz7_2; try clear hfz7_3; try clear hfz7_4; try clear hfz7_5; try clear hfz7_6; try clear hfz7_7; try clear hfz7_8; try clear hfz7_9; try clear hfz9_0; try clear hfz9_1; try clear hfz9_10; try clear hfz9_11; try clear hfz9_12; try clear hfz9_2; try clear hfz9_3; try clear hfz9_4; try clear hfz9_5; try clear hfz9_6; try clear hfz9_7; try clear hfz9_8; try clear hfz9_9
  obtain ⟨kq, x289001_4, HA, HJ4, BK288, HB⟩ := hcut
  cases kq with
  | zero => exact absurd HA.out (by simp [noonmarklaw15_DenPlain.j0])
  | succ kj4 =>
   have H := HA.out
   clear HA
   simp only [noonmarklaw15_DenPlain.j0] at H
   obtain ⟨y289, hy289⟩ : ∃ y_ : List (S48), y_ = (([(⟨a0, x289001_4, a1, (⟨#[]⟩ : ByteArray), (⟨#[88]⟩ : ByteArray), (⟨false, 0, 0, (⟨0, 0, 0⟩ : S42), (⟨0, 0⟩ : S44)⟩ : S46)⟩ : S48)] : List (S48))) := ⟨_, rfl⟩
   replace H : ((den_At.f kj4 y289 (([[]] : List (List (S53)))) a2).bind fun bt296 => (if a0 < (-86400) then (noonmarklaw15_DenPlain.j1 kj4 a1 a3 bt296.2.2.2 true bt296.1 bt296.2.1 bt296.2.2.1) else (if a0 > 86400 then (noonmarklaw15_DenPlain.j1 kj4 a1 a3 bt296.2.2.2 true bt296.1 bt296.2.1 bt296.2.2.1) else (if a3 = true then (if a1 < (-86400) then (noonmarklaw15_DenPlain.j1 kj4 a1 a3 bt296.2.2.2 true bt296.1 bt296.2.1 bt296.2.2.1) else (noonmarklaw15_DenPlain.j1 kj4 a1 a3 bt296.2.2.2 (decide (a1 > 86400)) bt296.1 bt296.2.1 bt296.2.2.1)) else (noonmarklaw15_DenPlain.j1 kj4 a1 a3 bt296.2.2.2 false bt296.1 bt296.2.1 bt296.2.2.1))))) = some r := by first | (rw [hy289]; with_reducible exact H) | (have H2_ := (Option.bind_some _ _).symm.trans H; rw [hy289]; with_reducible exact H2_) | (have H2_ := (Option.bind_some _ _).symm.trans H; with_reducible exact H2_) | with_reducible exact H | (rw [hy289]; exact H) | exact H
   have Ny289 := aM hy289
   clear hy289
   obtain ⟨y292, hy292⟩ : ∃ y_ : List (List (S53)), y_ = (([[]] : List (List (S53)))) := ⟨_, rfl⟩
   replace H : ((den_At.f kj4 y289 y292 a2).bind fun bt296 => (if a0 < (-86400) then (noonmarklaw15_DenPlain.j1 kj4 a1 a3 bt296.2.2.2 true bt296.1 bt296.2.1 bt296.2.2.1) else (if a0 > 86400 then (noonmarklaw15_DenPlain.j1 kj4 a1 a3 bt296.2.2.2 true bt296.1 bt296.2.1 bt296.2.2.1) else (if a3 = true then (if a1 < (-86400) then (noonmarklaw15_DenPlain.j1 kj4 a1 a3 bt296.2.2.2 true bt296.1 bt296.2.1 bt296.2.2.1) else (noonmarklaw15_DenPlain.j1 kj4 a1 a3 bt296.2.2.2 (decide (a1 > 86400)) bt296.1 bt296.2.1 bt296.2.2.1)) else (noonmarklaw15_DenPlain.j1 kj4 a1 a3 bt296.2.2.2 false bt296.1 bt296.2.1 bt296.2.2.1))))) = some r := by first | (rw [hy292]; with_reducible exact H) | (have H2_ := (Option.bind_some _ _).symm.trans H; rw [hy292]; with_reducible exact H2_) | (have H2_ := (Option.bind_some _ _).symm.trans H; with_reducible exact H2_) | with_reducible exact H | (rw [hy292]; exact H) | exact H
   have Ny292 := aM hy292
   clear hy292
   replace H := Option.bind_eq_some_iff.mp H
   obtain ⟨⟨t296, t297, t298, t299⟩, A100, H⟩ := H
   replace H : (if a0 < (-86400) then (noonmarklaw15_DenPlain.j1 kj4 a1 a3 t299 true t296 t297 t298) else (if a0 > 86400 then (noonmarklaw15_DenPlain.j1 kj4 a1 a3 t299 true t296 t297 t298) else (if a3 = true then (if a1 < (-86400) then (noonmarklaw15_DenPlain.j1 kj4 a1 a3 t299 true t296 t297 t298) else (noonmarklaw15_DenPlain.j1 kj4 a1 a3 t299 (decide (a1 > 86400)) t296 t297 t298)) else (noonmarklaw15_DenPlain.j1 kj4 a1 a3 t299 false t296 t297 t298)))) = some r := H
   have A10 := aM A100
   clear A100
   have HC11 := aM H
   clear H
   obtain ⟨hcz12_0, hcz12_1, hcz12_2, hcz12_3, hcz12_4, hcz12_5, hcz12_6, hcz12_7, hcz12_8, hcz12_9, hcz12_10, hcz12_11, hcz12_12⟩ := blkC13 BK288.out
   obtain ⟨hfz12_0, hfz12_1, hfz12_2, hfz12_3, hfz12_4, hfz12_5, hfz12_6, hfz12_7, hfz12_8, hfz12_9, hfz12_10, hfz12_11, hfz12_12⟩ := blkF13 BK288.out
   go_upto_region 6 with (first | ((with_reducible refine gate_dst (N := 20) rfl ?_); refine Kd.R_lit k48 _ 48 ?hg (N := 20) ?hd (xs := ([(⟨a0, x289001_4, a1, (⟨#[]⟩ : ByteArray), (⟨#[88]⟩ : ByteArray), (⟨false, 0, 0, (⟨0, 0, 0⟩ : S42), (⟨0, 0⟩ : S44)⟩ : S46)⟩ : S48)] : List (S48))) (inner := [.int .i64 a0, .int .i64 x289001_4, .int .i64 a1, .string (⟨#[]⟩ : ByteArray), .string (⟨#[88]⟩ : ByteArray), .bool false, .int .i64 0, .int .i64 0, .int .i64 0, .int .i64 0, .int .i64 0, .int .i64 0, .int .i64 0]) (ok := fun _ => True) (okp := fun _ => True) ?hr ?hp (fun _ hk => hk) trivial (Below.refl _ _) (Nat.le_refl _) (by simp) ?_; (case hd => rfl); (case hg => rfl); (case hr => first | (go_simp; done) | (go_simp; rfl)); (case hp => exact (Reps.front (show Kd.M k48 _ _ _ (⟨a0, x289001_4, a1, (⟨#[]⟩ : ByteArray), (⟨#[88]⟩ : ByteArray), (⟨false, 0, 0, (⟨0, 0, 0⟩ : S42), (⟨0, 0⟩ : S44)⟩ : S46)⟩ : S48) [.int .i64 a0, .int .i64 x289001_4, .int .i64 a1, .string (⟨#[]⟩ : ByteArray), .string (⟨#[88]⟩ : ByteArray), .bool false, .int .i64 0, .int .i64 0, .int .i64 0, .int .i64 0, .int .i64 0, .int .i64 0, .int .i64 0] from (k48_mkM _ _ _ (⟨a0, x289001_4, a1, (⟨#[]⟩ : ByteArray), (⟨#[88]⟩ : ByteArray), (⟨false, 0, 0, (⟨0, 0, 0⟩ : S42), (⟨0, 0⟩ : S44)⟩ : S46)⟩ : S48) )) rfl (Reps.none _ _) rfl)); intro v290 w13 ho14 hb hg_ hnew_; clear hg_ hnew_; (first | rw [← Ny289.out] at ho14 | (simp only [Int.reduceToNat] at ho14; rw [← Ny289.out] at ho14)); have n0_ := aM (Kd.R_lower (Kd.R_newB ho14 (bX BK288.out)) (below_size (by repeat (first | (with_reducible first | exact HB.out | apply lA | apply lN | apply lD | refine lS ?_ GE288.out) | exact HB.out)))); have n1_ := aM (blk_below (bX BK288.out) hb); have n2_ := aM (below_step (by repeat (first | (with_reducible first | exact HB.out | apply lA | apply lN | apply lD | refine lS ?_ GE288.out) | exact HB.out)) hb); clear BK288; clear HB; have HO291 := n0_; have BK288 := n1_; have HB := n2_; clear n0_ n1_ n2_; clear hb ho14) | ((with_reducible refine gate_dst (N := 21) rfl ?_); refine Kd.S_lit (Kd.slice 53 k53) _ 51 ?hg (N := 21) ?hd (xs := ([[]] : List (List (S53)))) (inner := [.slice none 0 0]) (ok := fun _ => True) (okp := fun _ => True) ?hr ?hp (fun _ hk => hk) trivial (Below.refl _ _) (Nat.le_refl _) (by simp) ?_; (case hd => rfl); (case hg => rfl); (case hr => first | (go_simp; done) | (go_simp; rfl)); (case hp => exact (Reps.one (show Kd.M (Kd.slice 53 k53) _ _ _ [] [.slice none 0 0] from ⟨_, rfl, Kd.R_nil _ _ _ _ _⟩) (Reps.none _ _))); intro v293 w15 ho16 hb hg_ hnew_; clear hg_ hnew_; (first | rw [← Ny292.out] at ho16 | (simp only [Int.reduceToNat] at ho16; rw [← Ny292.out] at ho16)); have n0_ := aM (Kd.R_below (by (with_reducible repeat first | apply rA | apply rN | apply rD); exact HO291.out) hb); have n1_ := aM (Kd.S_lower ho16 (below_size (by repeat (first | (with_reducible first | exact HB.out | apply lA | apply lN | apply lD | refine lS ?_ GE288.out) | exact HB.out)))); have n2_ := aM (blk_below (bX BK288.out) hb); have n3_ := aM (below_step (by repeat (first | (with_reducible first | exact HB.out | apply lA | apply lN | apply lD | refine lS ?_ GE288.out) | exact HB.out)) hb); clear HO291; clear BK288; clear HB; have HO291 := n0_; have HO294 := n1_; have BK288 := n2_; have HB := n3_; clear n0_ n1_ n2_ n3_; clear hb ho16; obtain ⟨Ao17, co17, eo17⟩ := Kd.S_slice HO294.out; subst eo17; obtain ⟨Ao18, co18, eo18⟩ := Kd.R_slice HO291.out; subst eo18) | ((with_reducible refine gate_dst (N := 10) rfl ?_); refine box_event ?hg (N := 10) ?hd (cs := #[.slice none 0 0, .slice none 0 0]) (t := 33) ?hr ?_; (case hd => rfl); (case hg => rfl); (case hr => first | (go_simp; done) | (go_simp; rfl)); intro gb295 hg w19 hbox hb; have n0_ := aM (Kd.R_below (by (with_reducible repeat first | apply rA | apply rN | apply rD); exact HO291.out) hb); have n1_ := aM (Kd.S_below (by (with_reducible repeat (first | apply Kd.S_alloc | apply Kd.S_drewN | apply Kd.S_drew)); exact HO294.out) hb); have n2_ := aM (blk_below (bX BK288.out) hb); have n3_ := aM (below_step (by repeat (first | (with_reducible first | exact HB.out | apply lA | apply lN | apply lD | refine lS ?_ GE288.out) | exact HB.out)) hb); have n4_ := aM (hbox); have n5_ := aM ((by rw [hg]; exact (below_size (by repeat (first | (with_reducible first | exact HB.out | apply lA | apply lN | apply lD | refine lS ?_ GE288.out) | exact HB.out))) : w.heap.size ≤ gb295)); have n6_ := aM ((by rw [hg]; exact (below_size (by repeat (first | (with_reducible first | exact HB.out | apply lA | apply lN | apply lD | refine lS ?_ GE288.out) | exact HB.out))) : w.heap.size ≤ gb295)); have n7_ := aM ((by rw [hg]; exact Nat.ne_of_lt (blk_lt (bX BK288.out)) : gb288 ≠ gb295)); have n8_ := aM ((by rw [hg]; exact Nat.ne_of_gt (blk_lt (bX BK288.out)) : gb295 ≠ gb288)); clear HO291; clear HO294; clear BK288; clear HB; have HO291 := n0_; have HO294 := n1_; have BK288 := n2_; have HB := n3_; have BK295 := n4_; have GW295 := n5_; have GE295 := n6_; have NB288_295 := n7_; have NB295_288 := n8_; clear n0_ n1_ n2_ n3_ n4_ n5_ n6_ n7_ n8_; clear hb hbox hg; have hnb20 := NB295_288.out; have hnc20 := NB288_295.out; obtain ⟨hcz21_0, hcz21_1⟩ := blkC2 BK295.out; obtain ⟨hfz21_0, hfz21_1⟩ := blkF2 BK295.out) | ((with_reducible refine gate_callee (f := 8) rfl ?_); refine goesL_ (some 26) rfl rfl Try.func8 (by kernel_rfl) rfl #[.agg #[.slice Ao18 y289.length co18, .slice Ao17 y292.length co17], .int .i64 a2] rfl (by (try simp only [List.map_toArray, List.map_cons, List.map_nil]); first | done | rfl | (simp only [List.length_drop, List.length_take]; rfl)) ?_; (with_reducible refine (den_At.calls kj4 _ _ y289 _ _ y292 a2 t296 t297 t298 t299 _ ?side1 ?side2 ?side3 ?side4 A10.out).mono ?_); (case side1 => refine (Kd.R_reads' (e := 48) (base := w.heap.size) (ok := fun k_ => (True ∧ k_ ≠ gb288)) (n := y289.length) (c := co18) ?_).2.2; exact (by (with_reducible repeat first | apply rA | apply rN | apply rD); exact (Kd.R_mono (Kd.R_far (p := ⟨gb295, 1, none⟩) (Kd.R_far (p := ⟨gb295, 0, none⟩) (Kd.R_types HO291.out BK295.out (by decide)) (fun _ hk => hk.2) (.slice Ao18 y289.length co18)) (fun _ hk => hk.2) (.slice Ao17 y292.length co17)) (fun _ h_ => h_.1)))); (case side2 => exact (Kd.R_reads' HO291.out).2.1); (case side3 => refine (Kd.S_reads' (e := 51) (base := w.heap.size) (ok := fun k_ => True) (n := y292.length) (c := co17) ?_).2.2; exact (by (with_reducible repeat (first | apply Kd.S_alloc | apply Kd.S_drewN | apply Kd.S_drew)); exact (Kd.S_mono (Kd.S_far (p := ⟨gb295, 1, none⟩) (Kd.S_far (p := ⟨gb295, 0, none⟩) (Kd.S_types HO294.out BK295.out (by decide)) (fun _ hk => hk.2) (.slice Ao18 y289.length co18)) (fun _ hk => hk.2) (.slice Ao17 y292.length co17)) (fun _ h_ => h_.1)))); (case side4 => exact (Kd.S_reads' HO294.out).2.1); rintro e w22 ⟨rfl, hb⟩; refine ⟨_, rfl, ?_⟩; have n0_ := aM (Kd.R_below (by (with_reducible repeat first | apply rA | apply rN | apply rD); exact (Kd.R_mono (Kd.R_far (p := ⟨gb295, 1, none⟩) (Kd.R_far (p := ⟨gb295, 0, none⟩) (Kd.R_types HO291.out BK295.out (by decide)) (fun _ hk => hk.2) (.slice Ao18 y289.length co18)) (fun _ hk => hk.2) (.slice Ao17 y292.length co17)) (fun _ h_ => h_.1))) hb); have n1_ := aM (Kd.S_below (by (with_reducible repeat (first | apply Kd.S_alloc | apply Kd.S_drewN | apply Kd.S_drew)); exact (Kd.S_mono (Kd.S_far (p := ⟨gb295, 1, none⟩) (Kd.S_far (p := ⟨gb295, 0, none⟩) (Kd.S_types HO294.out BK295.out (by decide)) (fun _ hk => hk.2) (.slice Ao18 y289.length co18)) (fun _ hk => hk.2) (.slice Ao17 y292.length co17)) (fun _ h_ => h_.1))) hb); have n2_ := aM (blk_below (g := gb288) (o := .cells #[.int .i64 a0, .int .i64 x289001_4, .int .i64 a1, .string (⟨#[]⟩ : ByteArray), .string (⟨#[88]⟩ : ByteArray), .bool false, .int .i64 0, .int .i64 0, .int .i64 0, .int .i64 0, .int .i64 0, .int .i64 0, .int .i64 0] 48 (0, 0)) (by (with_reducible repeat first | apply bN | apply bD | apply bA); refine blk_far ?_ NB288_295.out _; (with_reducible repeat first | apply bN | apply bD | apply bA); refine blk_far ?_ NB288_295.out _; (with_reducible repeat first | apply bN | apply bD | apply bA); exact BK288.out) hb); have n3_ := aM (blk_below (g := gb295) (o := .cells #[.slice Ao18 y289.length co18, .slice Ao17 y292.length co17] 33 (0, 0)) (by (with_reducible repeat first | apply bN | apply bD | apply bA); refine blk_put (cs := #[.slice Ao18 y289.length co18, .slice none 0 0]) ?_ 1 _ rfl; (with_reducible repeat first | apply bN | apply bD | apply bA); refine blk_put (cs := #[.slice none 0 0, .slice none 0 0]) ?_ 0 _ rfl; (with_reducible repeat first | apply bN | apply bD | apply bA); exact BK295.out) hb); have n4_ := aM (below_step (by repeat (first | (with_reducible first | exact HB.out | apply lA | apply lN | apply lD | refine lS ?_ GE288.out | refine lS ?_ GE295.out) | exact HB.out)) hb); clear HO291; clear HO294; clear BK288; clear BK295; clear HB; have HO291 := n0_; have HO294 := n1_; have BK288 := n2_; have BK295 := n3_; have HB := n4_; clear n0_ n1_ n2_ n3_ n4_; (try clear hb); (try clear hb2); (try clear hk); (try clear hi)) | ((with_reducible refine gate_dst (N := 11) rfl ?_); refine box_event ?hg (N := 11) ?hd (cs := #[.int .i64 0, .int .i64 0, .string (⟨#[]⟩ : ByteArray)]) (t := 29) ?hr ?_; (case hd => rfl); (case hg => rfl); (case hr => first | (go_simp; done) | (go_simp; rfl)); intro gb300 hg w23 hbox hb; have n0_ := aM (Kd.R_below (by (with_reducible repeat first | apply rA | apply rN | apply rD); exact HO291.out) hb); have n1_ := aM (Kd.S_below (by (with_reducible repeat (first | apply Kd.S_alloc | apply Kd.S_drewN | apply Kd.S_drew)); exact HO294.out) hb); have n2_ := aM (blk_below (bX BK288.out) hb); have n3_ := aM (blk_below (bX BK295.out) hb); have n4_ := aM (below_step (by repeat (first | (with_reducible first | exact HB.out | apply lA | apply lN | apply lD | refine lS ?_ GE288.out | refine lS ?_ GE295.out) | exact HB.out)) hb); have n5_ := aM (hbox); have n6_ := aM ((by rw [hg]; exact (below_size (by repeat (first | (with_reducible first | exact HB.out | apply lA | apply lN | apply lD | refine lS ?_ GE288.out | refine lS ?_ GE295.out) | exact HB.out))) : w.heap.size ≤ gb300)); have n7_ := aM ((by rw [hg]; exact (below_size (by repeat (first | (with_reducible first | exact HB.out | apply lA | apply lN | apply lD | refine lS ?_ GE288.out | refine lS ?_ GE295.out) | exact HB.out))) : w.heap.size ≤ gb300)); have n8_ := aM ((by rw [hg]; exact Nat.ne_of_lt (blk_lt (bX BK288.out)) : gb288 ≠ gb300)); have n9_ := aM ((by rw [hg]; exact Nat.ne_of_gt (blk_lt (bX BK288.out)) : gb300 ≠ gb288)); have n10_ := aM ((by rw [hg]; exact Nat.ne_of_lt (blk_lt (bX BK295.out)) : gb295 ≠ gb300)); have n11_ := aM ((by rw [hg]; exact Nat.ne_of_gt (blk_lt (bX BK295.out)) : gb300 ≠ gb295)); clear HO291; clear HO294; clear BK288; clear BK295; clear HB; have HO291 := n0_; have HO294 := n1_; have BK288 := n2_; have BK295 := n3_; have HB := n4_; have BK300 := n5_; have GW300 := n6_; have GE300 := n7_; have NB288_300 := n8_; have NB300_288 := n9_; have NB295_300 := n10_; have NB300_295 := n11_; clear n0_ n1_ n2_ n3_ n4_ n5_ n6_ n7_ n8_ n9_ n10_ n11_; clear hb hbox hg; have hnb24 := NB300_288.out; have hnc24 := NB288_300.out; have hnb25 := NB300_295.out; have hnc25 := NB295_300.out; obtain ⟨hcz26_0, hcz26_1, hcz26_2⟩ := blkC3 BK300.out; obtain ⟨hfz26_0, hfz26_1, hfz26_2⟩ := blkF3 BK300.out))
   (try simp only [Act.put, sA, sZ, sS])
   go_cut [13] (fun v13 wc => ∃ (kq : Nat) (x13_10 : Bool), v13 = .bool x13_10 ∧ Aside0 (noonmarklaw15_DenPlain.j1 kq a1 a3 t299 x13_10 t296 t297 t298 = some r) ∧ Aside0 (kq ≤ kj4) ∧ Aside0 (Kd.R k48 48 wc w.heap.size (fun k_ => k_ ≠ gb288) (.slice Ao18 y289.length co18) y289) ∧ Aside0 (Kd.S (Kd.slice 53 k53) 51 wc w.heap.size (fun _ => True) (.slice Ao17 y292.length co17) y292) ∧ Aside0 (wc.heap[gb288]? = some (.cells #[.int .i64 a0, .int .i64 x289001_4, .int .i64 a1, .string (⟨#[]⟩ : ByteArray), .string (⟨#[88]⟩ : ByteArray), .bool false, .int .i64 0, .int .i64 0, .int .i64 0, .int .i64 0, .int .i64 0, .int .i64 0, .int .i64 0] 48 (0, 0))) ∧ Aside0 (wc.heap[gb295]? = some (.cells #[(.slice Ao18 y289.length co18), (.slice Ao17 y292.length co17)] 33 (0, 0))) ∧ Aside0 (wc.heap[gb300]? = some (.cells #[.int .i64 t296, .int .i64 t297, .string t298] 29 (0, 0))) ∧ Aside0 (Below w.heap.size w wc))
   case first =>
    have H := HC11.out
    clear HC11
    by_cases c27 : a0 < (-86400)
    ·rw [if_pos c27] at H
     have c27b0 : decide (a0 < (-86400)) = true := decide_eq_true c27
     clear c27
     (first | rw [c27b0] | (simp only [i64_w, i32_w]; rw [c27b0]) | skip)
     have H' := aM H
     clear H
     go_wp2
     go_meet
     case rel => exact ⟨_, (true), (by first | rfl | (simp; done) | (simp [*]; done)), H', ⟨by have := HJ4.out; first | omega | exact Nat.le_refl _⟩, ⟨by (with_reducible repeat first | apply rA | apply rN | apply rD); exact Kd.R_mono (Kd.R_far (p := ⟨gb300, 2, none⟩) (Kd.R_far (p := ⟨gb300, 1, none⟩) (Kd.R_far (p := ⟨gb300, 0, none⟩) (Kd.R_types HO291.out BK300.out (by decide)) (fun _ hk => hk.2) (.int .i64 t296)) (fun _ hk => hk.2) (.int .i64 t297)) (fun _ hk => hk.2) (.string t298)) (fun _ hk => hk.1.2)⟩, ⟨by (with_reducible repeat (first | apply Kd.S_alloc | apply Kd.S_drewN | apply Kd.S_drew)); exact Kd.S_mono (Kd.S_far (p := ⟨gb300, 2, none⟩) (Kd.S_far (p := ⟨gb300, 1, none⟩) (Kd.S_far (p := ⟨gb300, 0, none⟩) (Kd.S_types HO294.out BK300.out (by decide)) (fun _ hk => hk.2) (.int .i64 t296)) (fun _ hk => hk.2) (.int .i64 t297)) (fun _ hk => hk.2) (.string t298)) (fun _ hk => trivial)⟩, ⟨by (with_reducible repeat first | apply bN | apply bD | apply bA); refine blk_far ?_ NB288_300.out _; (with_reducible repeat first | apply bN | apply bD | apply bA); refine blk_far ?_ NB288_300.out _; (with_reducible repeat first | apply bN | apply bD | apply bA); refine blk_far ?_ NB288_300.out _; (with_reducible repeat first | apply bN | apply bD | apply bA); exact BK288.out⟩, ⟨by (with_reducible repeat first | apply bN | apply bD | apply bA); refine blk_far ?_ NB295_300.out _; (with_reducible repeat first | apply bN | apply bD | apply bA); refine blk_far ?_ NB295_300.out _; (with_reducible repeat first | apply bN | apply bD | apply bA); refine blk_far ?_ NB295_300.out _; (with_reducible repeat first | apply bN | apply bD | apply bA); exact BK295.out⟩, ⟨by (with_reducible repeat first | apply bN | apply bD | apply bA); refine blk_put (cs := #[.int .i64 t296, .int .i64 t297, .string (⟨#[]⟩ : ByteArray)]) ?_ 2 _ rfl; (with_reducible repeat first | apply bN | apply bD | apply bA); refine blk_put (cs := #[.int .i64 t296, .int .i64 0, .string (⟨#[]⟩ : ByteArray)]) ?_ 1 _ rfl; (with_reducible repeat first | apply bN | apply bD | apply bA); refine blk_put (cs := #[.int .i64 0, .int .i64 0, .string (⟨#[]⟩ : ByteArray)]) ?_ 0 _ rfl; (with_reducible repeat first | apply bN | apply bD | apply bA); exact BK300.out⟩, ⟨by repeat (first | (with_reducible first | exact HB.out | apply lA | apply lN | apply lD | refine lS ?_ GE288.out | refine lS ?_ GE295.out | refine lS ?_ GE300.out) | exact HB.out)⟩⟩
    ·rw [if_neg c27] at H
     have c27b0 : decide (a0 < (-86400)) = false := decide_eq_false c27
     clear c27
     (first | rw [c27b0] | (simp only [i64_w, i32_w]; rw [c27b0]) | skip)
     by_cases c28 : a0 > 86400
     ·rw [if_pos c28] at H
      have c28b0 : decide (86400 < a0) = true := decide_eq_true c28
      clear c28
      have H' := aM H
      clear H
      go_wp2
      go_meet
      case rel => exact ⟨_, (true), (by first | rfl | (simp; done) | (simp [*]; done)), H', ⟨by have := HJ4.out; first | omega | exact Nat.le_refl _⟩, ⟨by (with_reducible repeat first | apply rA | apply rN | apply rD); exact Kd.R_mono (Kd.R_far (p := ⟨gb300, 2, none⟩) (Kd.R_far (p := ⟨gb300, 1, none⟩) (Kd.R_far (p := ⟨gb300, 0, none⟩) (Kd.R_types HO291.out BK300.out (by decide)) (fun _ hk => hk.2) (.int .i64 t296)) (fun _ hk => hk.2) (.int .i64 t297)) (fun _ hk => hk.2) (.string t298)) (fun _ hk => hk.1.2)⟩, ⟨by (with_reducible repeat (first | apply Kd.S_alloc | apply Kd.S_drewN | apply Kd.S_drew)); exact Kd.S_mono (Kd.S_far (p := ⟨gb300, 2, none⟩) (Kd.S_far (p := ⟨gb300, 1, none⟩) (Kd.S_far (p := ⟨gb300, 0, none⟩) (Kd.S_types HO294.out BK300.out (by decide)) (fun _ hk => hk.2) (.int .i64 t296)) (fun _ hk => hk.2) (.int .i64 t297)) (fun _ hk => hk.2) (.string t298)) (fun _ hk => trivial)⟩, ⟨by (with_reducible repeat first | apply bN | apply bD | apply bA); refine blk_far ?_ NB288_300.out _; (with_reducible repeat first | apply bN | apply bD | apply bA); refine blk_far ?_ NB288_300.out _; (with_reducible repeat first | apply bN | apply bD | apply bA); refine blk_far ?_ NB288_300.out _; (with_reducible repeat first | apply bN | apply bD | apply bA); exact BK288.out⟩, ⟨by (with_reducible repeat first | apply bN | apply bD | apply bA); refine blk_far ?_ NB295_300.out _; (with_reducible repeat first | apply bN | apply bD | apply bA); refine blk_far ?_ NB295_300.out _; (with_reducible repeat first | apply bN | apply bD | apply bA); refine blk_far ?_ NB295_300.out _; (with_reducible repeat first | apply bN | apply bD | apply bA); exact BK295.out⟩, ⟨by (with_reducible repeat first | apply bN | apply bD | apply bA); refine blk_put (cs := #[.int .i64 t296, .int .i64 t297, .string (⟨#[]⟩ : ByteArray)]) ?_ 2 _ rfl; (with_reducible repeat first | apply bN | apply bD | apply bA); refine blk_put (cs := #[.int .i64 t296, .int .i64 0, .string (⟨#[]⟩ : ByteArray)]) ?_ 1 _ rfl; (with_reducible repeat first | apply bN | apply bD | apply bA); refine blk_put (cs := #[.int .i64 0, .int .i64 0, .string (⟨#[]⟩ : ByteArray)]) ?_ 0 _ rfl; (with_reducible repeat first | apply bN | apply bD | apply bA); exact BK300.out⟩, ⟨by repeat (first | (with_reducible first | exact HB.out | apply lA | apply lN | apply lD | refine lS ?_ GE288.out | refine lS ?_ GE295.out | refine lS ?_ GE300.out) | exact HB.out)⟩⟩
     ·rw [if_neg c28] at H
      have c28b0 : decide (86400 < a0) = false := decide_eq_false c28
      clear c28
      by_cases c29 : a3 = true
      ·subst c29
       have H1 : (if a1 < (-86400) then (noonmarklaw15_DenPlain.j1 kj4 a1 true t299 true t296 t297 t298) else (noonmarklaw15_DenPlain.j1 kj4 a1 true t299 (decide (a1 > 86400)) t296 t297 t298)) = some r := by rw [if_pos rfl] at H; exact H
       clear H
       have H := H1
       clear H1
       by_cases c30 : a1 < (-86400)
       ·rw [if_pos c30] at H
        have c30b0 : decide (a1 < (-86400)) = true := decide_eq_true c30
        clear c30
        have H' := aM H
        clear H
        go_wp2
        go_meet
        case rel => exact ⟨_, (true), (by first | rfl | (simp; done) | (simp [*]; done)), H', ⟨by have := HJ4.out; first | omega | exact Nat.le_refl _⟩, ⟨by (with_reducible repeat first | apply rA | apply rN | apply rD); exact Kd.R_mono (Kd.R_far (p := ⟨gb300, 2, none⟩) (Kd.R_far (p := ⟨gb300, 1, none⟩) (Kd.R_far (p := ⟨gb300, 0, none⟩) (Kd.R_types HO291.out BK300.out (by decide)) (fun _ hk => hk.2) (.int .i64 t296)) (fun _ hk => hk.2) (.int .i64 t297)) (fun _ hk => hk.2) (.string t298)) (fun _ hk => hk.1.2)⟩, ⟨by (with_reducible repeat (first | apply Kd.S_alloc | apply Kd.S_drewN | apply Kd.S_drew)); exact Kd.S_mono (Kd.S_far (p := ⟨gb300, 2, none⟩) (Kd.S_far (p := ⟨gb300, 1, none⟩) (Kd.S_far (p := ⟨gb300, 0, none⟩) (Kd.S_types HO294.out BK300.out (by decide)) (fun _ hk => hk.2) (.int .i64 t296)) (fun _ hk => hk.2) (.int .i64 t297)) (fun _ hk => hk.2) (.string t298)) (fun _ hk => trivial)⟩, ⟨by (with_reducible repeat first | apply bN | apply bD | apply bA); refine blk_far ?_ NB288_300.out _; (with_reducible repeat first | apply bN | apply bD | apply bA); refine blk_far ?_ NB288_300.out _; (with_reducible repeat first | apply bN | apply bD | apply bA); refine blk_far ?_ NB288_300.out _; (with_reducible repeat first | apply bN | apply bD | apply bA); exact BK288.out⟩, ⟨by (with_reducible repeat first | apply bN | apply bD | apply bA); refine blk_far ?_ NB295_300.out _; (with_reducible repeat first | apply bN | apply bD | apply bA); refine blk_far ?_ NB295_300.out _; (with_reducible repeat first | apply bN | apply bD | apply bA); refine blk_far ?_ NB295_300.out _; (with_reducible repeat first | apply bN | apply bD | apply bA); exact BK295.out⟩, ⟨by (with_reducible repeat first | apply bN | apply bD | apply bA); refine blk_put (cs := #[.int .i64 t296, .int .i64 t297, .string (⟨#[]⟩ : ByteArray)]) ?_ 2 _ rfl; (with_reducible repeat first | apply bN | apply bD | apply bA); refine blk_put (cs := #[.int .i64 t296, .int .i64 0, .string (⟨#[]⟩ : ByteArray)]) ?_ 1 _ rfl; (with_reducible repeat first | apply bN | apply bD | apply bA); refine blk_put (cs := #[.int .i64 0, .int .i64 0, .string (⟨#[]⟩ : ByteArray)]) ?_ 0 _ rfl; (with_reducible repeat first | apply bN | apply bD | apply bA); exact BK300.out⟩, ⟨by repeat (first | (with_reducible first | exact HB.out | apply lA | apply lN | apply lD | refine lS ?_ GE288.out | refine lS ?_ GE295.out | refine lS ?_ GE300.out) | exact HB.out)⟩⟩
       ·rw [if_neg c30] at H
        have c30b0 : decide (a1 < (-86400)) = false := decide_eq_false c30
        clear c30
        have H' := aM H
        clear H
        go_wp2
        go_meet
        case rel => exact ⟨_, (decide (a1 > 86400)), (by first | rfl | (simp; done) | (simp [*]; done)), H', ⟨by have := HJ4.out; first | omega | exact Nat.le_refl _⟩, ⟨by (with_reducible repeat first | apply rA | apply rN | apply rD); exact Kd.R_mono (Kd.R_far (p := ⟨gb300, 2, none⟩) (Kd.R_far (p := ⟨gb300, 1, none⟩) (Kd.R_far (p := ⟨gb300, 0, none⟩) (Kd.R_types HO291.out BK300.out (by decide)) (fun _ hk => hk.2) (.int .i64 t296)) (fun _ hk => hk.2) (.int .i64 t297)) (fun _ hk => hk.2) (.string t298)) (fun _ hk => hk.1.2)⟩, ⟨by (with_reducible repeat (first | apply Kd.S_alloc | apply Kd.S_drewN | apply Kd.S_drew)); exact Kd.S_mono (Kd.S_far (p := ⟨gb300, 2, none⟩) (Kd.S_far (p := ⟨gb300, 1, none⟩) (Kd.S_far (p := ⟨gb300, 0, none⟩) (Kd.S_types HO294.out BK300.out (by decide)) (fun _ hk => hk.2) (.int .i64 t296)) (fun _ hk => hk.2) (.int .i64 t297)) (fun _ hk => hk.2) (.string t298)) (fun _ hk => trivial)⟩, ⟨by (with_reducible repeat first | apply bN | apply bD | apply bA); refine blk_far ?_ NB288_300.out _; (with_reducible repeat first | apply bN | apply bD | apply bA); refine blk_far ?_ NB288_300.out _; (with_reducible repeat first | apply bN | apply bD | apply bA); refine blk_far ?_ NB288_300.out _; (with_reducible repeat first | apply bN | apply bD | apply bA); exact BK288.out⟩, ⟨by (with_reducible repeat first | apply bN | apply bD | apply bA); refine blk_far ?_ NB295_300.out _; (with_reducible repeat first | apply bN | apply bD | apply bA); refine blk_far ?_ NB295_300.out _; (with_reducible repeat first | apply bN | apply bD | apply bA); refine blk_far ?_ NB295_300.out _; (with_reducible repeat first | apply bN | apply bD | apply bA); exact BK295.out⟩, ⟨by (with_reducible repeat first | apply bN | apply bD | apply bA); refine blk_put (cs := #[.int .i64 t296, .int .i64 t297, .string (⟨#[]⟩ : ByteArray)]) ?_ 2 _ rfl; (with_reducible repeat first | apply bN | apply bD | apply bA); refine blk_put (cs := #[.int .i64 t296, .int .i64 0, .string (⟨#[]⟩ : ByteArray)]) ?_ 1 _ rfl; (with_reducible repeat first | apply bN | apply bD | apply bA); refine blk_put (cs := #[.int .i64 0, .int .i64 0, .string (⟨#[]⟩ : ByteArray)]) ?_ 0 _ rfl; (with_reducible repeat first | apply bN | apply bD | apply bA); exact BK300.out⟩, ⟨by repeat (first | (with_reducible first | exact HB.out | apply lA | apply lN | apply lD | refine lS ?_ GE288.out | refine lS ?_ GE295.out | refine lS ?_ GE300.out) | exact HB.out)⟩⟩
      ·replace c29 := Bool.eq_false_iff.mpr c29
       subst c29
       have H1 : (noonmarklaw15_DenPlain.j1 kj4 a1 false t299 false t296 t297 t298) = some r := by rw [if_neg (show ¬ (false = true) by decide)] at H; exact H
       clear H
       have H := H1
       clear H1
       have H' := aM H
       clear H
       go_wp2
       go_meet
       case rel => exact ⟨_, (false), (by first | rfl | (simp; done) | (simp [*]; done)), H', ⟨by have := HJ4.out; first | omega | exact Nat.le_refl _⟩, ⟨by (with_reducible repeat first | apply rA | apply rN | apply rD); exact Kd.R_mono (Kd.R_far (p := ⟨gb300, 2, none⟩) (Kd.R_far (p := ⟨gb300, 1, none⟩) (Kd.R_far (p := ⟨gb300, 0, none⟩) (Kd.R_types HO291.out BK300.out (by decide)) (fun _ hk => hk.2) (.int .i64 t296)) (fun _ hk => hk.2) (.int .i64 t297)) (fun _ hk => hk.2) (.string t298)) (fun _ hk => hk.1.2)⟩, ⟨by (with_reducible repeat (first | apply Kd.S_alloc | apply Kd.S_drewN | apply Kd.S_drew)); exact Kd.S_mono (Kd.S_far (p := ⟨gb300, 2, none⟩) (Kd.S_far (p := ⟨gb300, 1, none⟩) (Kd.S_far (p := ⟨gb300, 0, none⟩) (Kd.S_types HO294.out BK300.out (by decide)) (fun _ hk => hk.2) (.int .i64 t296)) (fun _ hk => hk.2) (.int .i64 t297)) (fun _ hk => hk.2) (.string t298)) (fun _ hk => trivial)⟩, ⟨by (with_reducible repeat first | apply bN | apply bD | apply bA); refine blk_far ?_ NB288_300.out _; (with_reducible repeat first | apply bN | apply bD | apply bA); refine blk_far ?_ NB288_300.out _; (with_reducible repeat first | apply bN | apply bD | apply bA); refine blk_far ?_ NB288_300.out _; (with_reducible repeat first | apply bN | apply bD | apply bA); exact BK288.out⟩, ⟨by (with_reducible repeat first | apply bN | apply bD | apply bA); refine blk_far ?_ NB295_300.out _; (with_reducible repeat first | apply bN | apply bD | apply bA); refine blk_far ?_ NB295_300.out _; (with_reducible repeat first | apply bN | apply bD | apply bA); refine blk_far ?_ NB295_300.out _; (with_reducible repeat first | apply bN | apply bD | apply bA); exact BK295.out⟩, ⟨by (with_reducible repeat first | apply bN | apply bD | apply bA); refine blk_put (cs := #[.int .i64 t296, .int .i64 t297, .string (⟨#[]⟩ : ByteArray)]) ?_ 2 _ rfl; (with_reducible repeat first | apply bN | apply bD | apply bA); refine blk_put (cs := #[.int .i64 t296, .int .i64 0, .string (⟨#[]⟩ : ByteArray)]) ?_ 1 _ rfl; (with_reducible repeat first | apply bN | apply bD | apply bA); refine blk_put (cs := #[.int .i64 0, .int .i64 0, .string (⟨#[]⟩ : ByteArray)]) ?_ 0 _ rfl; (with_reducible repeat first | apply bN | apply bD | apply bA); exact BK300.out⟩, ⟨by repeat (first | (with_reducible first | exact HB.out | apply lA | apply lN | apply lD | refine lS ?_ GE288.out | refine lS ?_ GE295.out | refine lS ?_ GE300.out) | exact HB.out)⟩⟩
   case rest =>
    clear HC11
    try clear c2; try clear p2; try clear c3; try clear c5; try clear c8; try clear c20; try clear c24; try clear c25; try clear c27; try clear c27b0; try clear c28; try clear c28b0; try clear c29; try clear c30; try clear c30b0; try clear hcz12_0; try clear hcz12_1; try clear hcz12_10; try clear hcz12_11; try clear hcz12_12; try clear hcz12_2; try clear hcz12_3; try clear hcz12_4; try clear hcz12_5; try clear hcz12_6; try clear hcz12_7; try clear hcz12_8; try clear hcz12_9; try clear hcz21_0; try clear hcz21_1; try clear hcz26_0; try clear hcz26_1; try clear hcz26_2; try clear hcz7_0; try clear hcz7_1; try clear hcz7_10; try clear hcz7_11; try clear hcz7_12; try clear hcz7_2; try clear hcz7_3; try clear hcz7_4; try clear hcz7_5; try clear hcz7_6; try clear hcz7_7; try clear hcz7_8; try clear hcz7_9; try clear hcz9_0; try clear hcz9_1; try clear hcz9_10; try clear hcz9_11; try clear hcz9_12; try clear hcz9_2; try clear hcz9_3; try clear hcz9_4; try clear hcz9_5; try clear hcz9_6; try clear hcz9_7; try clear hcz9_8; try clear hcz9_9; try clear hfz12_0; try clear hfz12_1; try clear hfz12_10; try clear hfz12_11; try clear hfz12_12; try clear hfz12_2; try clear hfz12_3; try clear hfz12_4; try clear hfz12_5; try clear hfz12_6; try clear hfz12_7; try clear hfz12_8; try clear hfz12_9; try clear hfz21_0; try clear hfz21_1; try clear hfz26_0; try clear hfz26_1; try clear hfz26_2; try clear hfz7_0; try clear hfz7_1; try clear hfz7_10; try clear hfz7_11; try clear hfz7_12; try clear hfz7_2; try clear hfz7_3; try clear hfz7_4; try clear hfz7_5; try clear hfz7_6; try clear hfz7_7; try clear hfz7_8; try clear hfz7_9; try clear hfz9_0; try clear hfz9_1; try clear hfz9_10; try clear hfz9_11; try clear hfz9_12; try clear hfz9_2; try clear hfz9_3; try clear hfz9_4; try clear hfz9_5; try clear hfz9_6; try clear hfz9_7; try clear hfz9_8; try clear hfz9_9; try clear p2
    obtain ⟨kq, x13_10, rfl, HA, HJ10, HO_296000, HO_296001, BK288, BK295, BK300, HB⟩ := hcut
    cases kq with
    | zero => exact absurd HA.out (by simp [noonmarklaw15_DenPlain.j1])
    | succ kj10 =>
     have H := HA.out
     clear HA
     simp only [noonmarklaw15_DenPlain.j1] at H
     by_cases c31 : x13_10 = true
     ·subst c31
      have H1 : (if t299 = 1 then (if (t296 == 0 && (t297 == 0 && (t298.toList == ([] : List UInt8)))) = true then ((noonmarklaw15_alive.f kj10).bind fun t301 => (some t301)) else (some false)) else (some false)) = some r := by rw [if_pos rfl] at H; exact H
      clear H
      have H := H1
      clear H1
      by_cases c32 : t299 = 1
      ·rw [if_pos c32] at H
       have c32b0 : (t299 == 1) = true := beq_iff_eq.mpr c32
       have c32b1 : (t299 != 1) = false := bne_eq_false_iff_eq.mpr c32
       clear c32
       by_cases c33 : (t296 == 0 && (t297 == 0 && (t298.toList == ([] : List UInt8)))) = true
       ·rw [if_pos c33] at H
        have c33b0 : (t296 == 0 && (t297 == 0 && (t298.toList == ([] : List UInt8)))) = true := c33
        (try (have c33b1 : decide (t296 = 0 && (t297 == 0 && (t298.toList == ([] : List UInt8)))) = true := by simpa using c33))
        (try (have c33b2 : (t296 == 0 && (t297 == 0 && (t298.toList == ([] : List UInt8)))) = true := by simpa using c33))
        (try (have c33b3 : (t296 == 0 && (t297 == 0 && t298.toList.isEmpty)) = true := by first | simpa using c33 | (simp at c33 ⊢; simp [c33])))
        clear c33
        replace H := Option.bind_eq_some_iff.mp H
        obtain ⟨t301, A340, H⟩ := H
        replace H : (some t301) = some r := H
        have A34 := aM A340
        clear A340
        obtain rfl := Option.some.inj H
        have hnb35 := NB300_288.out
        have hnc35 := NB288_300.out
        have hnb36 := NB300_295.out
        have hnc36 := NB295_300.out
        obtain ⟨hcz37_0, hcz37_1, hcz37_2⟩ := blkC3 BK300.out
        obtain ⟨hfz37_0, hfz37_1, hfz37_2⟩ := blkF3 BK300.out
        go_wp2_with (first | (go_at_call 7; (with_reducible refine (noonmarklaw15_alive.calls kj10  t301 _ A34.out).mono ?_); rintro e w38 ⟨rfl, hb⟩; have n0_ := aM (Kd.R_below (by (with_reducible repeat first | apply rA | apply rN | apply rD); exact HO_296000.out) hb); have n1_ := aM (Kd.S_below (by (with_reducible repeat (first | apply Kd.S_alloc | apply Kd.S_drewN | apply Kd.S_drew)); exact HO_296001.out) hb); have n2_ := aM (blk_below (bX BK288.out) hb); have n3_ := aM (blk_below (bX BK295.out) hb); have n4_ := aM (blk_below (bX BK300.out) hb); have n5_ := aM (below_step (by repeat (first | (with_reducible first | exact HB.out | apply lA | apply lN | apply lD | refine lS ?_ GE288.out | refine lS ?_ GE295.out | refine lS ?_ GE300.out) | exact HB.out)) hb); clear HO_296000; clear HO_296001; clear BK288; clear BK295; clear BK300; clear HB; have HO_296000 := n0_; have HO_296001 := n1_; have BK288 := n2_; have BK295 := n3_; have BK300 := n4_; have HB := n5_; clear n0_ n1_ n2_ n3_ n4_ n5_; (try clear hb); (try clear hb2); (try clear hk); (try clear hi)))
        go_ret
        exact ⟨by first | rfl | (simp [errW_none, errW_some] <;> rfl) | (simp [*, errW_none, errW_some] <;> rfl), by repeat (first | (with_reducible first | exact HB.out | apply lA | apply lN | apply lD | refine lS ?_ GE288.out | refine lS ?_ GE295.out | refine lS ?_ GE300.out) | exact HB.out)⟩
       ·rw [if_neg c33] at H
        have c33b0 : (t296 == 0 && (t297 == 0 && (t298.toList == ([] : List UInt8)))) = false := by simpa using c33
        (try (have c33b1 : decide (t296 = 0 && (t297 == 0 && (t298.toList == ([] : List UInt8)))) = false := by simpa using c33))
        (try (have c33b2 : (t296 == 0 && (t297 == 0 && (t298.toList == ([] : List UInt8)))) = false := by simpa using c33))
        (try (have c33b3 : ¬ (t296 = 0 && (t297 == 0 && (t298.toList == ([] : List UInt8)))) := by simpa using c33))
        (try (have c33b4 : (t296 == 0 && (t297 == 0 && t298.toList.isEmpty)) = false := by first | simpa using c33 | (simp at c33 ⊢; simp [c33])))
        clear c33
        obtain rfl := Option.some.inj H
        have hnb39 := NB300_288.out
        have hnc39 := NB288_300.out
        have hnb40 := NB300_295.out
        have hnc40 := NB295_300.out
        obtain ⟨hcz41_0, hcz41_1, hcz41_2⟩ := blkC3 BK300.out
        obtain ⟨hfz41_0, hfz41_1, hfz41_2⟩ := blkF3 BK300.out
        go_wp2
        go_ret
        exact ⟨by first | rfl | (simp [errW_none, errW_some] <;> rfl) | (simp [*, errW_none, errW_some] <;> rfl), by repeat (first | (with_reducible first | exact HB.out | apply lA | apply lN | apply lD | refine lS ?_ GE288.out | refine lS ?_ GE295.out | refine lS ?_ GE300.out) | exact HB.out)⟩
      ·rw [if_neg c32] at H
       have c32b0 : (t299 == 1) = false := beq_eq_false_iff_ne.mpr c32
       have c32b1 : (t299 != 1) = true := bne_iff_ne.mpr c32
       obtain rfl := Option.some.inj H
       go_wp2
       go_ret
       exact ⟨by first | rfl | (simp [errW_none, errW_some] <;> rfl) | (simp [*, errW_none, errW_some] <;> rfl), by repeat (first | (with_reducible first | exact HB.out | apply lA | apply lN | apply lD | refine lS ?_ GE288.out | refine lS ?_ GE295.out | refine lS ?_ GE300.out) | exact HB.out)⟩
     ·replace c31 := Bool.eq_false_iff.mpr c31
      subst c31
      have H1 : (if t299 = 0 then (if a3 = true then (if (t296 == 0 && (t297 == a1 && (t298.toList == ([] : List UInt8)))) = true then ((noonmarklaw15_alive.f kj10).bind fun t303 => (some t303)) else (some false)) else (if (t296 == 0 && (t297 == 0 && (t298.toList == ([] : List UInt8)))) = true then ((noonmarklaw15_alive.f kj10).bind fun t304 => (some t304)) else (some false))) else (if t299 = 2 then ((noonmarklaw15_alive.f kj10).bind fun t302 => (some t302)) else (some false))) = some r := by rw [if_neg (show ¬ (false = true) by decide)] at H; exact H
      clear H
      have H := H1
      clear H1
      by_cases c42 : t299 = 0
      ·rw [if_pos c42] at H
       have c42b0 : (t299 == 0) = true := beq_iff_eq.mpr c42
       have c42b1 : (t299 != 0) = false := bne_eq_false_iff_eq.mpr c42
       clear c42
       by_cases c43 : a3 = true
       ·subst c43
        have H1 : (if (t296 == 0 && (t297 == a1 && (t298.toList == ([] : List UInt8)))) = true then ((noonmarklaw15_alive.f kj10).bind fun t303 => (some t303)) else (some false)) = some r := by rw [if_pos rfl] at H; exact H
        clear H
        have H := H1
        clear H1
        by_cases c44 : (t296 == 0 && (t297 == a1 && (t298.toList == ([] : List UInt8)))) = true
        ·rw [if_pos c44] at H
         have c44b0 : (t296 == 0 && (t297 == a1 && (t298.toList == ([] : List UInt8)))) = true := c44
         (try (have c44b1 : decide (t296 = 0 && (t297 == a1 && (t298.toList == ([] : List UInt8)))) = true := by simpa using c44))
         (try (have c44b2 : (t296 == 0 && (t297 == a1 && (t298.toList == ([] : List UInt8)))) = true := by simpa using c44))
         (try (have c44b3 : (t296 == 0 && (t297 == a1 && t298.toList.isEmpty)) = true := by first | simpa using c44 | (simp at c44 ⊢; simp [c44])))
         clear c44
         replace H := Option.bind_eq_some_iff.mp H
         obtain ⟨t303, A450, H⟩ := H
         replace H : (some t303) = some r := H
         have A45 := aM A450
         clear A450
         obtain rfl := Option.some.inj H
         have hnb46 := NB300_288.out
         have hnc46 := NB288_300.out
         have hnb47 := NB300_295.out
         have hnc47 := NB295_300.out
         obtain ⟨hcz48_0, hcz48_1, hcz48_2⟩ := blkC3 BK300.out
         obtain ⟨hfz48_0, hfz48_1, hfz48_2⟩ := blkF3 BK300.out
         go_wp2_with (first | (go_at_call 7; (with_reducible refine (noonmarklaw15_alive.calls kj10  t303 _ A45.out).mono ?_); rintro e w49 ⟨rfl, hb⟩; have n0_ := aM (Kd.R_below (by (with_reducible repeat first | apply rA | apply rN | apply rD); exact HO_296000.out) hb); have n1_ := aM (Kd.S_below (by (with_reducible repeat (first | apply Kd.S_alloc | apply Kd.S_drewN | apply Kd.S_drew)); exact HO_296001.out) hb); have n2_ := aM (blk_below (bX BK288.out) hb); have n3_ := aM (blk_below (bX BK295.out) hb); have n4_ := aM (blk_below (bX BK300.out) hb); have n5_ := aM (below_step (by repeat (first | (with_reducible first | exact HB.out | apply lA | apply lN | apply lD | refine lS ?_ GE288.out | refine lS ?_ GE295.out | refine lS ?_ GE300.out) | exact HB.out)) hb); clear HO_296000; clear HO_296001; clear BK288; clear BK295; clear BK300; clear HB; have HO_296000 := n0_; have HO_296001 := n1_; have BK288 := n2_; have BK295 := n3_; have BK300 := n4_; have HB := n5_; clear n0_ n1_ n2_ n3_ n4_ n5_; (try clear hb); (try clear hb2); (try clear hk); (try clear hi)))
         go_ret
         exact ⟨by first | rfl | (simp [errW_none, errW_some] <;> rfl) | (simp [*, errW_none, errW_some] <;> rfl), by repeat (first | (with_reducible first | exact HB.out | apply lA | apply lN | apply lD | refine lS ?_ GE288.out | refine lS ?_ GE295.out | refine lS ?_ GE300.out) | exact HB.out)⟩
        ·rw [if_neg c44] at H
         have c44b0 : (t296 == 0 && (t297 == a1 && (t298.toList == ([] : List UInt8)))) = false := by simpa using c44
         (try (have c44b1 : decide (t296 = 0 && (t297 == a1 && (t298.toList == ([] : List UInt8)))) = false := by simpa using c44))
         (try (have c44b2 : (t296 == 0 && (t297 == a1 && (t298.toList == ([] : List UInt8)))) = false := by simpa using c44))
         (try (have c44b3 : ¬ (t296 = 0 && (t297 == a1 && (t298.toList == ([] : List UInt8)))) := by simpa using c44))
         (try (have c44b4 : (t296 == 0 && (t297 == a1 && t298.toList.isEmpty)) = false := by first | simpa using c44 | (simp at c44 ⊢; simp [c44])))
         clear c44
         obtain rfl := Option.some.inj H
         have hnb50 := NB300_288.out
         have hnc50 := NB288_300.out
         have hnb51 := NB300_295.out
         have hnc51 := NB295_300.out
         obtain ⟨hcz52_0, hcz52_1, hcz52_2⟩ := blkC3 BK300.out
         obtain ⟨hfz52_0, hfz52_1, hfz52_2⟩ := blkF3 BK300.out
         go_wp2
         go_ret
         exact ⟨by first | rfl | (simp [errW_none, errW_some] <;> rfl) | (simp [*, errW_none, errW_some] <;> rfl), by repeat (first | (with_reducible first | exact HB.out | apply lA | apply lN | apply lD | refine lS ?_ GE288.out | refine lS ?_ GE295.out | refine lS ?_ GE300.out) | exact HB.out)⟩
       ·replace c43 := Bool.eq_false_iff.mpr c43
        subst c43
        have H1 : (if (t296 == 0 && (t297 == 0 && (t298.toList == ([] : List UInt8)))) = true then ((noonmarklaw15_alive.f kj10).bind fun t304 => (some t304)) else (some false)) = some r := by rw [if_neg (show ¬ (false = true) by decide)] at H; exact H
        clear H
        have H := H1
        clear H1
        by_cases c53 : (t296 == 0 && (t297 == 0 && (t298.toList == ([] : List UInt8)))) = true
        ·rw [if_pos c53] at H
         have c53b0 : (t296 == 0 && (t297 == 0 && (t298.toList == ([] : List UInt8)))) = true := c53
         (try (have c53b1 : decide (t296 = 0 && (t297 == 0 && (t298.toList == ([] : List UInt8)))) = true := by simpa using c53))
         (try (have c53b2 : (t296 == 0 && (t297 == 0 && (t298.toList == ([] : List UInt8)))) = true := by simpa using c53))
         (try (have c53b3 : (t296 == 0 && (t297 == 0 && t298.toList.isEmpty)) = true := by first | simpa using c53 | (simp at c53 ⊢; simp [c53])))
         clear c53
         replace H := Option.bind_eq_some_iff.mp H
         obtain ⟨t304, A540, H⟩ := H
         replace H : (some t304) = some r := H
         have A54 := aM A540
         clear A540
         obtain rfl := Option.some.inj H
         have hnb55 := NB300_288.out
         have hnc55 := NB288_300.out
         have hnb56 := NB300_295.out
         have hnc56 := NB295_300.out
         obtain ⟨hcz57_0, hcz57_1, hcz57_2⟩ := blkC3 BK300.out
         obtain ⟨hfz57_0, hfz57_1, hfz57_2⟩ := blkF3 BK300.out
         go_wp2_with (first | (go_at_call 7; (with_reducible refine (noonmarklaw15_alive.calls kj10  t304 _ A54.out).mono ?_); rintro e w58 ⟨rfl, hb⟩; have n0_ := aM (Kd.R_below (by (with_reducible repeat first | apply rA | apply rN | apply rD); exact HO_296000.out) hb); have n1_ := aM (Kd.S_below (by (with_reducible repeat (first | apply Kd.S_alloc | apply Kd.S_drewN | apply Kd.S_drew)); exact HO_296001.out) hb); have n2_ := aM (blk_below (bX BK288.out) hb); have n3_ := aM (blk_below (bX BK295.out) hb); have n4_ := aM (blk_below (bX BK300.out) hb); have n5_ := aM (below_step (by repeat (first | (with_reducible first | exact HB.out | apply lA | apply lN | apply lD | refine lS ?_ GE288.out | refine lS ?_ GE295.out | refine lS ?_ GE300.out) | exact HB.out)) hb); clear HO_296000; clear HO_296001; clear BK288; clear BK295; clear BK300; clear HB; have HO_296000 := n0_; have HO_296001 := n1_; have BK288 := n2_; have BK295 := n3_; have BK300 := n4_; have HB := n5_; clear n0_ n1_ n2_ n3_ n4_ n5_; (try clear hb); (try clear hb2); (try clear hk); (try clear hi)))
         go_ret
         exact ⟨by first | rfl | (simp [errW_none, errW_some] <;> rfl) | (simp [*, errW_none, errW_some] <;> rfl), by repeat (first | (with_reducible first | exact HB.out | apply lA | apply lN | apply lD | refine lS ?_ GE288.out | refine lS ?_ GE295.out | refine lS ?_ GE300.out) | exact HB.out)⟩
        ·rw [if_neg c53] at H
         have c53b0 : (t296 == 0 && (t297 == 0 && (t298.toList == ([] : List UInt8)))) = false := by simpa using c53
         (try (have c53b1 : decide (t296 = 0 && (t297 == 0 && (t298.toList == ([] : List UInt8)))) = false := by simpa using c53))
         (try (have c53b2 : (t296 == 0 && (t297 == 0 && (t298.toList == ([] : List UInt8)))) = false := by simpa using c53))
         (try (have c53b3 : ¬ (t296 = 0 && (t297 == 0 && (t298.toList == ([] : List UInt8)))) := by simpa using c53))
         (try (have c53b4 : (t296 == 0 && (t297 == 0 && t298.toList.isEmpty)) = false := by first | simpa using c53 | (simp at c53 ⊢; simp [c53])))
         clear c53
         obtain rfl := Option.some.inj H
         have hnb59 := NB300_288.out
         have hnc59 := NB288_300.out
         have hnb60 := NB300_295.out
         have hnc60 := NB295_300.out
         obtain ⟨hcz61_0, hcz61_1, hcz61_2⟩ := blkC3 BK300.out
         obtain ⟨hfz61_0, hfz61_1, hfz61_2⟩ := blkF3 BK300.out
         go_wp2
         go_ret
         exact ⟨by first | rfl | (simp [errW_none, errW_some] <;> rfl) | (simp [*, errW_none, errW_some] <;> rfl), by repeat (first | (with_reducible first | exact HB.out | apply lA | apply lN | apply lD | refine lS ?_ GE288.out | refine lS ?_ GE295.out | refine lS ?_ GE300.out) | exact HB.out)⟩
      ·rw [if_neg c42] at H
       have c42b0 : (t299 == 0) = false := beq_eq_false_iff_ne.mpr c42
       have c42b1 : (t299 != 0) = true := bne_iff_ne.mpr c42
       by_cases c62 : t299 = 2
       ·rw [if_pos c62] at H
        have c62b0 : (t299 == 2) = true := beq_iff_eq.mpr c62
        have c62b1 : (t299 != 2) = false := bne_eq_false_iff_eq.mpr c62
        clear c62
        replace H := Option.bind_eq_some_iff.mp H
        obtain ⟨t302, A630, H⟩ := H
        replace H : (some t302) = some r := H
        have A63 := aM A630
        clear A630
        obtain rfl := Option.some.inj H
        go_wp2_with (first | (go_at_call 7; (with_reducible refine (noonmarklaw15_alive.calls kj10  t302 _ A63.out).mono ?_); rintro e w64 ⟨rfl, hb⟩; have n0_ := aM (Kd.R_below (by (with_reducible repeat first | apply rA | apply rN | apply rD); exact HO_296000.out) hb); have n1_ := aM (Kd.S_below (by (with_reducible repeat (first | apply Kd.S_alloc | apply Kd.S_drewN | apply Kd.S_drew)); exact HO_296001.out) hb); have n2_ := aM (blk_below (bX BK288.out) hb); have n3_ := aM (blk_below (bX BK295.out) hb); have n4_ := aM (blk_below (bX BK300.out) hb); have n5_ := aM (below_step (by repeat (first | (with_reducible first | exact HB.out | apply lA | apply lN | apply lD | refine lS ?_ GE288.out | refine lS ?_ GE295.out | refine lS ?_ GE300.out) | exact HB.out)) hb); clear HO_296000; clear HO_296001; clear BK288; clear BK295; clear BK300; clear HB; have HO_296000 := n0_; have HO_296001 := n1_; have BK288 := n2_; have BK295 := n3_; have BK300 := n4_; have HB := n5_; clear n0_ n1_ n2_ n3_ n4_ n5_; (try clear hb); (try clear hb2); (try clear hk); (try clear hi)))
        go_ret
        exact ⟨by first | rfl | (simp [errW_none, errW_some] <;> rfl) | (simp [*, errW_none, errW_some] <;> rfl), by repeat (first | (with_reducible first | exact HB.out | apply lA | apply lN | apply lD | refine lS ?_ GE288.out | refine lS ?_ GE295.out | refine lS ?_ GE300.out) | exact HB.out)⟩
       ·rw [if_neg c62] at H
        have c62b0 : (t299 == 2) = false := beq_eq_false_iff_ne.mpr c62
        have c62b1 : (t299 != 2) = true := bne_iff_ne.mpr c62
        obtain rfl := Option.some.inj H
        go_wp2
        go_ret
        exact ⟨by first | rfl | (simp [errW_none, errW_some] <;> rfl) | (simp [*, errW_none, errW_some] <;> rfl), by repeat (first | (with_reducible first | exact HB.out | apply lA | apply lN | apply lD | refine lS ?_ GE288.out | refine lS ?_ GE295.out | refine lS ?_ GE300.out) | exact HB.out)⟩
def noonmarklaw15_DenPlain.Pure : Prop := ∀ (a0 : Int) (a1 : Int) (a2 : Int) (a3 : Bool), (Lit.int .i64 a0).wf = true → (Lit.int .i64 a1).wf = true → (Lit.int .i64 a2).wf = true → ∃ k, noonmarklaw15_DenPlain.f k a0 a1 a2 a3 = some true
theorem noonmarklaw15_DenPlain.walk (P : noonmarklaw15_DenPlain.Pure) (a0 : Int) (a1 : Int) (a2 : Int) (a3 : Bool) (w : World) (w0 : (Lit.int .i64 a0).wf = true) (w1 : (Lit.int .i64 a1).wf = true) (w2 : (Lit.int .i64 a2).wf = true) :
  Calls Try.prog 5 #[.int .i64 a0, .int .i64 a1, .int .i64 a2, .bool a3] w fun e w' => e = .returned (.bool true) ∧ Below w.heap.size w w' := by
 obtain ⟨k, h⟩ := P a0 a1 a2 a3 w0 w1 w2
 refine (noonmarklaw15_DenPlain.calls k a0 a1 a2 a3 true w h).mono ?_
 rintro e w' ⟨rfl, hd⟩
 exact ⟨rfl, hd⟩
end Go.Proofs.Ytadamegddcadcaa.PDen
