import Derived.Test.YtadamegddcadcaaFnA
import Derived.Test.YtadamegddcadcaaSort
set_option linter.unusedVariables false
set_option maxRecDepth 100000
set_option maxHeartbeats 4000000
set_option linter.unusedVariables false
namespace Go.Proofs.YtadamegddcadcaaPi
open Go Go.Proofs
abbrev T_api_Rule : Ty := (.pair .str (.pair (.int .i64) (.pair (.int .i64) (.pair (.int .i64) (.pair T_api_Day (.pair T_api_At (.pair (.int .i64) (.pair .str .unit))))))))
abbrev D_api_Rule := (ByteArray × (Int × (Int × (Int × (D_api_Day × (D_api_At × (Int × (ByteArray × Unit))))))))
/-! ### noonmark/civil.number -/
abbrev civil_number_ps : Ty := T_api_Day
abbrev civil_number_rs : Ty := (.pair (.int .i64) .unit)
def civil_number_sp : Specs := look []
def civil_number_an : An := (.s .o (.k [] [0,1,2] 0 .o .o))
abbrev civil_number_t0 := Int × Int × Int
def civil_number_m0 (z : civil_number_t0) : St := ⟨[.v ⟨(.int .i64), z.1⟩, .v ⟨(.int .i64), z.2.1⟩, .v ⟨(.int .i64), z.2.2⟩, .junk, .junk, .junk, .junk, .junk, .junk, .junk, .junk, .junk, .junk, .junk, .junk, .junk, .junk, .junk, .junk, .junk, .junk, .junk, .junk, .junk, .junk, .junk, .junk, .junk, .junk, .junk, .junk, .junk, .junk, .junk, .junk, .junk, .junk, .junk, .junk, .junk, .junk, .junk, .junk, .junk, .junk], []⟩
def civil_number_p0 (_n : Nat) (z : civil_number_t0) : Option (Int × Unit) :=
  let t4 := w64 (Int.tdiv (w64 (z.1 + 12000)) (400 : Int))
  let t7 := w64 ((w64 (z.1 + 12000)) - (w64 (t4 * 400)))
  some ((w64 ((w64 ((w64 ((w64 ((w64 ((w64 (t4 * 146097)) + (w64 (t7 * 365)))) + (w64 (Int.tdiv t7 (4 : Int))))) - (w64 (Int.tdiv t7 (100 : Int))))) + (w64 ((w64 ((w64 (Int.tdiv (w64 ((w64 (153 * (w64 (z.2.1 - 3)))) + 2)) (5 : Int))) + z.2.2)) - 1)))) - 5102378)), ())
def civil_number_s0 (n : Nat) (z : civil_number_t0) : Option (Int × Unit) := civil_number_p0 n z
theorem civil_number_e0 (n : Nat) (rc : Code → An → St → (Ex → St → Option (Int × Unit)) → Option (Int × Unit)) (z : civil_number_t0) : codeR rc Try.prog civil_number_sp n (cr (cr (bodyOf Try.f35))) civil_number_an.right.right (civil_number_m0 z) (kFin Try.prog civil_number_rs Try.f35) = civil_number_p0 n z := by kernel_rfl
theorem civil_number_q0 (n : Nat) (z : civil_number_t0) : codeK Try.prog civil_number_sp n (cr (cr (bodyOf Try.f35))) civil_number_an.right.right (civil_number_m0 z) (kFin Try.prog civil_number_rs Try.f35) = civil_number_s0 n z := by
  rw [codeK_R, civil_number_e0]
  rfl
def civil_number_px (_n : Nat) (k0 : civil_number_t0 → Option (Int × Unit)) (x : D_api_Day) : Option (Int × Unit) :=
  bif (decide (x.2.1 ≤ 2)) then
    k0 ((w64 (x.1 - 1)), (w64 (x.2.1 + 12)), x.2.2.1)
  else
    k0 (x.1, x.2.1, x.2.2.1)
def civil_number (n : Nat) (x : D_api_Day) : Option (Int × Unit) := civil_number_px n (civil_number_s0 n) x
theorem civil_number_ex (n : Nat) (rc : Code → An → St → (Ex → St → Option (Int × Unit)) → Option (Int × Unit)) (x : D_api_Day) : codeR rc Try.prog civil_number_sp n (bodyOf Try.f35) civil_number_an (start civil_number_ps x (Func.ntmps Try.f35)) (kFin Try.prog civil_number_rs Try.f35) = civil_number_px n (fun y => rc (cr (cr (bodyOf Try.f35))) civil_number_an.right.right (civil_number_m0 y) (kFin Try.prog civil_number_rs Try.f35)) x := by kernel_rfl
theorem civil_number_qx (n : Nat) (x : D_api_Day) : codeK Try.prog civil_number_sp n (bodyOf Try.f35) civil_number_an (start civil_number_ps x (Func.ntmps Try.f35)) (kFin Try.prog civil_number_rs Try.f35) = civil_number n x := by
  have h0 : (fun y => codeK Try.prog civil_number_sp n (cr (cr (bodyOf Try.f35))) civil_number_an.right.right (civil_number_m0 y) (kFin Try.prog civil_number_rs Try.f35)) = (civil_number_s0 n) := funext fun y => by
    have := civil_number_q0 n  y
    exact this
  rw [codeK_R, civil_number_ex]
  rw [h0]
  rfl
def civil_number_spec : Sp := ⟨civil_number_ps, civil_number_rs, civil_number⟩
theorem civil_number_ok : SoundX Try.prog CX 35 (.f civil_number_spec) := sound_of look_nil Try.func35 (by kernel_rfl) rfl civil_number_an civil_number_spec rfl rfl civil_number_qx

/-! ### (noonmark/expand.lasting).first -/
abbrev expand_lasting_first_ps : Ty := (.pair T_api_Rule .unit)
abbrev expand_lasting_first_rs : Ty := (.pair (.int .i64) .unit)
def expand_lasting_first_sp : Specs := look []
def expand_lasting_first_an : An := .o
def expand_lasting_first_px (_n : Nat) (x : (D_api_Rule × Unit)) : Option (Int × Unit) :=
  some ((imax x.1.2.1 (1 : Int)), ())
def expand_lasting_first (n : Nat) (x : (D_api_Rule × Unit)) : Option (Int × Unit) := expand_lasting_first_px n x
theorem expand_lasting_first_ex (n : Nat) (rc : Code → An → St → (Ex → St → Option (Int × Unit)) → Option (Int × Unit)) (x : (D_api_Rule × Unit)) : codeR rc Try.prog expand_lasting_first_sp n (bodyOf Try.f52) expand_lasting_first_an (start expand_lasting_first_ps x (Func.ntmps Try.f52)) (kFin Try.prog expand_lasting_first_rs Try.f52) = expand_lasting_first_px n x := by kernel_rfl
theorem expand_lasting_first_qx (n : Nat) (x : (D_api_Rule × Unit)) : codeK Try.prog expand_lasting_first_sp n (bodyOf Try.f52) expand_lasting_first_an (start expand_lasting_first_ps x (Func.ntmps Try.f52)) (kFin Try.prog expand_lasting_first_rs Try.f52) = expand_lasting_first n x := by
  rw [codeK_R, expand_lasting_first_ex]
  rfl
def expand_lasting_first_spec : Sp := ⟨expand_lasting_first_ps, expand_lasting_first_rs, expand_lasting_first⟩
theorem expand_lasting_first_ok : SoundX Try.prog CX 52 (.f expand_lasting_first_spec) := sound_of look_nil Try.func52 (by kernel_rfl) rfl expand_lasting_first_an expand_lasting_first_spec rfl rfl expand_lasting_first_qx

/-! ### (noonmark/expand.lasting).last -/
abbrev expand_lasting_last_ps : Ty := (.pair T_api_Rule .unit)
abbrev expand_lasting_last_rs : Ty := (.pair (.int .i64) .unit)
def expand_lasting_last_sp : Specs := look []
def expand_lasting_last_an : An := .o
def expand_lasting_last_px (_n : Nat) (x : (D_api_Rule × Unit)) : Option (Int × Unit) :=
  some ((imin x.1.2.2.1 (9999 : Int)), ())
def expand_lasting_last (n : Nat) (x : (D_api_Rule × Unit)) : Option (Int × Unit) := expand_lasting_last_px n x
theorem expand_lasting_last_ex (n : Nat) (rc : Code → An → St → (Ex → St → Option (Int × Unit)) → Option (Int × Unit)) (x : (D_api_Rule × Unit)) : codeR rc Try.prog expand_lasting_last_sp n (bodyOf Try.f53) expand_lasting_last_an (start expand_lasting_last_ps x (Func.ntmps Try.f53)) (kFin Try.prog expand_lasting_last_rs Try.f53) = expand_lasting_last_px n x := by kernel_rfl
theorem expand_lasting_last_qx (n : Nat) (x : (D_api_Rule × Unit)) : codeK Try.prog expand_lasting_last_sp n (bodyOf Try.f53) expand_lasting_last_an (start expand_lasting_last_ps x (Func.ntmps Try.f53)) (kFin Try.prog expand_lasting_last_rs Try.f53) = expand_lasting_last n x := by
  rw [codeK_R, expand_lasting_last_ex]
  rfl
def expand_lasting_last_spec : Sp := ⟨expand_lasting_last_ps, expand_lasting_last_rs, expand_lasting_last⟩
theorem expand_lasting_last_ok : SoundX Try.prog CX 53 (.f expand_lasting_last_spec) := sound_of look_nil Try.func53 (by kernel_rfl) rfl expand_lasting_last_an expand_lasting_last_spec rfl rfl expand_lasting_last_qx

/-! ### noonmark/dayform.right -/
abbrev dayform_right_ps : Ty := (.pair T_api_Day .unit)
abbrev dayform_right_rs : Ty := (.pair .bool .unit)
def dayform_right_sp : Specs := look []
def dayform_right_an : An := (.s .o (.k [] [1] 1 (.b (.k [] [1,3] 1 .o .o)) .o))
abbrev dayform_right_t0 := D_api_Day
def dayform_right_m0 (z : dayform_right_t0) : St := ⟨[.junk, .v ⟨(.ptr 0 0 T_api_Day), ()⟩, .junk, .junk, .junk, .junk, .junk, .junk, .junk, .junk, .junk, .junk, .junk, .junk, .junk, .junk, .junk, .junk, .junk, .junk, .junk, .junk, .junk, .junk, .junk, .junk, .junk, .junk, .junk, .junk, .junk, .junk, .junk, .junk, .junk, .junk, .junk, .junk, .junk, .junk, .junk, .junk, .junk, .junk, .junk, .junk, .junk], [some (.one ⟨T_api_Day, z⟩)]⟩
abbrev dayform_right_t1 := Bool × D_api_Day
def dayform_right_m1 (z : dayform_right_t1) : St := ⟨[.junk, .v ⟨(.ptr 0 0 T_api_Day), ()⟩, .junk, .v ⟨.bool, z.1⟩, .junk, .junk, .junk, .junk, .junk, .junk, .junk, .junk, .junk, .junk, .junk, .junk, .junk, .junk, .junk, .junk, .junk, .junk, .junk, .junk, .junk, .junk, .junk, .junk, .junk, .junk, .junk, .junk, .junk, .junk, .junk, .junk, .junk, .junk, .junk, .junk, .junk, .junk, .junk, .junk, .junk, .junk, .junk], [some (.one ⟨T_api_Day, z.2⟩)]⟩
def dayform_right_p0 (_n : Nat) (z : dayform_right_t0) : Option (Bool × Unit) :=
  bif (decide (z.2.1 ≥ 1)) then
    bif (decide (z.2.1 ≤ 31)) then
      bif (decide (z.1 > 0)) then
        some (true, ())
      else
        some ((z.2.2.1 == 0), ())
    else
      some (false, ())
  else
    some (false, ())
def dayform_right_s0 (n : Nat) (z : dayform_right_t0) : Option (Bool × Unit) := dayform_right_p0 n z
theorem dayform_right_e0 (n : Nat) (rc : Code → An → St → (Ex → St → Option (Bool × Unit)) → Option (Bool × Unit)) (z : dayform_right_t0) : codeR rc Try.prog dayform_right_sp n (cr (cr (bodyOf Try.f47))) dayform_right_an.right.right (dayform_right_m0 z) (kFin Try.prog dayform_right_rs Try.f47) = dayform_right_p0 n z := by kernel_rfl
theorem dayform_right_q0 (n : Nat) (z : dayform_right_t0) : codeK Try.prog dayform_right_sp n (cr (cr (bodyOf Try.f47))) dayform_right_an.right.right (dayform_right_m0 z) (kFin Try.prog dayform_right_rs Try.f47) = dayform_right_s0 n z := by
  rw [codeK_R, dayform_right_e0]
  rfl
def dayform_right_p1 (_n : Nat) (k0 : dayform_right_t0 → Option (Bool × Unit)) (z : dayform_right_t1) : Option (Bool × Unit) :=
  bif z.1 then
    some (false, ())
  else
    bif (z.2.1 == 1) then
      some ((z.2.2.1 == 0), ())
    else
      k0 z.2
def dayform_right_s1 (n : Nat) (k0 : dayform_right_t0 → Option (Bool × Unit)) (z : dayform_right_t1) : Option (Bool × Unit) := dayform_right_p1 n k0 z
theorem dayform_right_e1 (n : Nat) (k0 : St → Option (Bool × Unit)) (rc : Code → An → St → (Ex → St → Option (Bool × Unit)) → Option (Bool × Unit)) (z : dayform_right_t1) : codeR rc Try.prog dayform_right_sp n (cr (cl (cl (cr (bodyOf Try.f47))))) dayform_right_an.right.left.left.right (dayform_right_m1 z) (kBlk 0 (kSeq k0 dayform_right_an.right (kFin Try.prog dayform_right_rs Try.f47))) = dayform_right_p1 n (fun y => k0 (dayform_right_m0 y)) z := by kernel_rfl
theorem dayform_right_q1 (n : Nat) (k0 : St → Option (Bool × Unit)) (z : dayform_right_t1) : codeK Try.prog dayform_right_sp n (cr (cl (cl (cr (bodyOf Try.f47))))) dayform_right_an.right.left.left.right (dayform_right_m1 z) (kBlk 0 (kSeq k0 dayform_right_an.right (kFin Try.prog dayform_right_rs Try.f47))) = dayform_right_s1 n (fun y => k0 (dayform_right_m0 y)) z := by
  rw [codeK_R, dayform_right_e1]
  rfl
def dayform_right_px (_n : Nat) (k0 : dayform_right_t0 → Option (Bool × Unit)) (k1 : dayform_right_t1 → Option (Bool × Unit)) (x : (D_api_Day × Unit)) : Option (Bool × Unit) :=
  bif (decide (x.1.1 < 0)) then
    k1 (true, x.1)
  else
    bif (decide (x.1.1 > 3)) then
      k1 (true, x.1)
    else
      bif (decide (x.1.2.2.1 < 0)) then
        k1 (true, x.1)
      else
        k1 ((decide (x.1.2.2.1 > 6)), x.1)
def dayform_right (n : Nat) (x : (D_api_Day × Unit)) : Option (Bool × Unit) := dayform_right_px n (dayform_right_s0 n) (dayform_right_s1 n (dayform_right_s0 n)) x
theorem dayform_right_ex (n : Nat) (rc : Code → An → St → (Ex → St → Option (Bool × Unit)) → Option (Bool × Unit)) (x : (D_api_Day × Unit)) : codeR rc Try.prog dayform_right_sp n (bodyOf Try.f47) dayform_right_an (start dayform_right_ps x (Func.ntmps Try.f47)) (kFin Try.prog dayform_right_rs Try.f47) = dayform_right_px n (fun y => rc (cr (cr (bodyOf Try.f47))) dayform_right_an.right.right (dayform_right_m0 y) (kFin Try.prog dayform_right_rs Try.f47)) (fun y => rc (cr (cl (cl (cr (bodyOf Try.f47))))) dayform_right_an.right.left.left.right (dayform_right_m1 y) (kBlk 0 (kSeq (fun st => rc (cr (cr (bodyOf Try.f47))) dayform_right_an.right.right st (kFin Try.prog dayform_right_rs Try.f47)) dayform_right_an.right (kFin Try.prog dayform_right_rs Try.f47)))) x := by kernel_rfl
theorem dayform_right_qx (n : Nat) (x : (D_api_Day × Unit)) : codeK Try.prog dayform_right_sp n (bodyOf Try.f47) dayform_right_an (start dayform_right_ps x (Func.ntmps Try.f47)) (kFin Try.prog dayform_right_rs Try.f47) = dayform_right n x := by
  have h0 : (fun y => codeK Try.prog dayform_right_sp n (cr (cr (bodyOf Try.f47))) dayform_right_an.right.right (dayform_right_m0 y) (kFin Try.prog dayform_right_rs Try.f47)) = (dayform_right_s0 n) := funext fun y => by
    have := dayform_right_q0 n  y
    exact this
  have h1 : (fun y => codeK Try.prog dayform_right_sp n (cr (cl (cl (cr (bodyOf Try.f47))))) dayform_right_an.right.left.left.right (dayform_right_m1 y) (kBlk 0 (kSeq (fun st => codeK Try.prog dayform_right_sp n (cr (cr (bodyOf Try.f47))) dayform_right_an.right.right st (kFin Try.prog dayform_right_rs Try.f47)) dayform_right_an.right (kFin Try.prog dayform_right_rs Try.f47)))) = (dayform_right_s1 n (dayform_right_s0 n)) := funext fun y => by
    have := dayform_right_q1 n (fun st => codeK Try.prog dayform_right_sp n (cr (cr (bodyOf Try.f47))) dayform_right_an.right.right st (kFin Try.prog dayform_right_rs Try.f47)) y
    rw [h0] at this; exact this
  rw [codeK_R, dayform_right_ex]
  rw [h0]
  rw [h1]
  rfl
def dayform_right_spec : Sp := ⟨dayform_right_ps, dayform_right_rs, dayform_right⟩
theorem dayform_right_ok : SoundX Try.prog CX 47 (.f dayform_right_spec) := sound_of look_nil Try.func47 (by kernel_rfl) rfl dayform_right_an dayform_right_spec rfl rfl dayform_right_qx

/-! ### noonmark/civil.Leap -/
abbrev civil_Leap_ps : Ty := (.pair (.int .i64) .unit)
abbrev civil_Leap_rs : Ty := (.pair .bool .unit)
def civil_Leap_sp : Specs := look []
def civil_Leap_an : An := .o
def civil_Leap_px (_n : Nat) (x : (Int × Unit)) : Option (Bool × Unit) :=
  bif ((w64 (((BitVec.ofInt (IntKind.bits .i64) x.1) &&& (BitVec.ofInt (IntKind.bits .i64) (3 : Int))).toNat : Int)) == 0) then
    bif ((Int.tmod x.1 (25 : Int)) != 0) then
      some (true, ())
    else
      some (((w64 (((BitVec.ofInt (IntKind.bits .i64) x.1) &&& (BitVec.ofInt (IntKind.bits .i64) (15 : Int))).toNat : Int)) == 0), ())
  else
    some (false, ())
def civil_Leap (n : Nat) (x : (Int × Unit)) : Option (Bool × Unit) := civil_Leap_px n x
theorem civil_Leap_ex (n : Nat) (rc : Code → An → St → (Ex → St → Option (Bool × Unit)) → Option (Bool × Unit)) (x : (Int × Unit)) : codeR rc Try.prog civil_Leap_sp n (bodyOf Try.f66) civil_Leap_an (start civil_Leap_ps x (Func.ntmps Try.f66)) (kFin Try.prog civil_Leap_rs Try.f66) = civil_Leap_px n x := by kernel_rfl
theorem civil_Leap_qx (n : Nat) (x : (Int × Unit)) : codeK Try.prog civil_Leap_sp n (bodyOf Try.f66) civil_Leap_an (start civil_Leap_ps x (Func.ntmps Try.f66)) (kFin Try.prog civil_Leap_rs Try.f66) = civil_Leap n x := by
  rw [codeK_R, civil_Leap_ex]
  rfl
def civil_Leap_spec : Sp := ⟨civil_Leap_ps, civil_Leap_rs, civil_Leap⟩
theorem civil_Leap_ok : SoundX Try.prog CX 66 (.f civil_Leap_spec) := sound_of look_nil Try.func66 (by kernel_rfl) rfl civil_Leap_an civil_Leap_spec rfl rfl civil_Leap_qx

/-! ### noonmark/civil.Long -/
abbrev civil_Long_ps : Ty := T_api_At
abbrev civil_Long_rs : Ty := (.pair (.int .i64) .unit)
def civil_Long_sp : Specs := look [(66, .f civil_Leap_spec)]
def civil_Long_an : An := .o
def civil_Long_px (n : Nat) (x : D_api_At) : Option (Int × Unit) :=
  bif (decide (x.2.1 < 1)) then
    some ((0 : Int), ())
  else
    bif (decide (x.2.1 > 12)) then
      some ((0 : Int), ())
    else
      bif (x.2.1 == 2) then
        ((civil_Leap n (x.1, ()))).bind fun v1 =>
        bif v1.1 then
          some ((29 : Int), ())
        else
          let t2 := w64 (x.2.1 - 1)
          bif decide (0 ≤ t2) then
            (((chain 12 (.int .i64) ((31 : Int), ((28 : Int), ((31 : Int), ((30 : Int), ((31 : Int), ((30 : Int), ((31 : Int), ((31 : Int), ((30 : Int), ((31 : Int), ((30 : Int), ((31 : Int), ())))))))))))))[Int.toNat t2]?)).bind fun c3 =>
            some (c3, ())
          else none
      else
        let t4 := w64 (x.2.1 - 1)
        bif decide (0 ≤ t4) then
          (((chain 12 (.int .i64) ((31 : Int), ((28 : Int), ((31 : Int), ((30 : Int), ((31 : Int), ((30 : Int), ((31 : Int), ((31 : Int), ((30 : Int), ((31 : Int), ((30 : Int), ((31 : Int), ())))))))))))))[Int.toNat t4]?)).bind fun c5 =>
          some (c5, ())
        else none
def civil_Long (n : Nat) (x : D_api_At) : Option (Int × Unit) := civil_Long_px n x
theorem civil_Long_ex (n : Nat) (rc : Code → An → St → (Ex → St → Option (Int × Unit)) → Option (Int × Unit)) (x : D_api_At) : codeR rc Try.prog civil_Long_sp n (bodyOf Try.f48) civil_Long_an (start civil_Long_ps x (Func.ntmps Try.f48)) (kFin Try.prog civil_Long_rs Try.f48) = civil_Long_px n x := by kernel_rfl
theorem civil_Long_qx (n : Nat) (x : D_api_At) : codeK Try.prog civil_Long_sp n (bodyOf Try.f48) civil_Long_an (start civil_Long_ps x (Func.ntmps Try.f48)) (kFin Try.prog civil_Long_rs Try.f48) = civil_Long n x := by
  rw [codeK_R, civil_Long_ex]
  rfl
def civil_Long_spec : Sp := ⟨civil_Long_ps, civil_Long_rs, civil_Long⟩
theorem civil_Long_ok : SoundX Try.prog CX 48 (.f civil_Long_spec) := sound_of (look_cons civil_Leap_ok look_nil) Try.func48 (by kernel_rfl) rfl civil_Long_an civil_Long_spec rfl rfl civil_Long_qx

/-! ### noonmark/civil.Right -/
abbrev civil_Right_ps : Ty := T_api_Day
abbrev civil_Right_rs : Ty := (.pair .bool .unit)
def civil_Right_sp : Specs := look [(48, .f civil_Long_spec)]
def civil_Right_an : An := .o
def civil_Right_px (n : Nat) (x : D_api_Day) : Option (Bool × Unit) :=
  bif (decide (x.1 ≥ (-9999))) then
    bif (decide (x.1 ≤ 9999)) then
      bif (decide (x.2.2.1 ≥ 1)) then
        ((civil_Long n (x.1, (x.2.1, ())))).bind fun v1 =>
        some ((decide (x.2.2.1 ≤ v1.1)), ())
      else
        some (false, ())
    else
      some (false, ())
  else
    some (false, ())
def civil_Right (n : Nat) (x : D_api_Day) : Option (Bool × Unit) := civil_Right_px n x
theorem civil_Right_ex (n : Nat) (rc : Code → An → St → (Ex → St → Option (Bool × Unit)) → Option (Bool × Unit)) (x : D_api_Day) : codeR rc Try.prog civil_Right_sp n (bodyOf Try.f67) civil_Right_an (start civil_Right_ps x (Func.ntmps Try.f67)) (kFin Try.prog civil_Right_rs Try.f67) = civil_Right_px n x := by kernel_rfl
theorem civil_Right_qx (n : Nat) (x : D_api_Day) : codeK Try.prog civil_Right_sp n (bodyOf Try.f67) civil_Right_an (start civil_Right_ps x (Func.ntmps Try.f67)) (kFin Try.prog civil_Right_rs Try.f67) = civil_Right n x := by
  rw [codeK_R, civil_Right_ex]
  rfl
def civil_Right_spec : Sp := ⟨civil_Right_ps, civil_Right_rs, civil_Right⟩
theorem civil_Right_ok : SoundX Try.prog CX 67 (.f civil_Right_spec) := sound_of (look_cons civil_Long_ok look_nil) Try.func67 (by kernel_rfl) rfl civil_Right_an civil_Right_spec rfl rfl civil_Right_qx

/-! ### noonmark/civil.Days -/
abbrev civil_Days_ps : Ty := T_api_Day
abbrev civil_Days_rs : Ty := T_api_At
def civil_Days_sp : Specs := look [(35, .f civil_number_spec), (67, .f civil_Right_spec)]
def civil_Days_an : An := .o
def civil_Days_px (n : Nat) (x : D_api_Day) : Option D_api_At :=
  ((civil_Right n (x.1, (x.2.1, (x.2.2.1, ()))))).bind fun v1 =>
  bif (!v1.1) then
    some ((0 : Int), ((6 : Int), ()))
  else
    ((civil_number n (x.1, (x.2.1, (x.2.2.1, ()))))).bind fun v2 =>
    some (v2.1, ((0 : Int), ()))
def civil_Days (n : Nat) (x : D_api_Day) : Option D_api_At := civil_Days_px n x
theorem civil_Days_ex (n : Nat) (rc : Code → An → St → (Ex → St → Option D_api_At) → Option D_api_At) (x : D_api_Day) : codeR rc Try.prog civil_Days_sp n (bodyOf Try.f49) civil_Days_an (start civil_Days_ps x (Func.ntmps Try.f49)) (kFin Try.prog civil_Days_rs Try.f49) = civil_Days_px n x := by kernel_rfl
theorem civil_Days_qx (n : Nat) (x : D_api_Day) : codeK Try.prog civil_Days_sp n (bodyOf Try.f49) civil_Days_an (start civil_Days_ps x (Func.ntmps Try.f49)) (kFin Try.prog civil_Days_rs Try.f49) = civil_Days n x := by
  rw [codeK_R, civil_Days_ex]
  rfl
def civil_Days_spec : Sp := ⟨civil_Days_ps, civil_Days_rs, civil_Days⟩
theorem civil_Days_ok : SoundX Try.prog CX 49 (.f civil_Days_spec) := sound_of (look_cons civil_number_ok (look_cons civil_Right_ok look_nil)) Try.func49 (by kernel_rfl) rfl civil_Days_an civil_Days_spec rfl rfl civil_Days_qx

/-! ### noonmark/civil.Week -/
abbrev civil_Week_ps : Ty := (.pair (.int .i64) .unit)
abbrev civil_Week_rs : Ty := (.pair (.int .i64) .unit)
def civil_Week_sp : Specs := look []
def civil_Week_an : An := (.s .o (.s .o (.k [] [3] 0 .o .o)))
abbrev civil_Week_t0 := Int
def civil_Week_m0 (z : civil_Week_t0) : St := ⟨[.junk, .junk, .junk, .v ⟨(.int .i64), z⟩, .junk, .junk, .junk, .junk, .junk, .junk, .junk, .junk, .junk], []⟩
def civil_Week_p0 (_n : Nat) (z : civil_Week_t0) : Option (Int × Unit) :=
  some (z, ())
def civil_Week_s0 (n : Nat) (z : civil_Week_t0) : Option (Int × Unit) := civil_Week_p0 n z
theorem civil_Week_e0 (n : Nat) (rc : Code → An → St → (Ex → St → Option (Int × Unit)) → Option (Int × Unit)) (z : civil_Week_t0) : codeR rc Try.prog civil_Week_sp n (cr (cr (cr (bodyOf Try.f50)))) civil_Week_an.right.right.right (civil_Week_m0 z) (kFin Try.prog civil_Week_rs Try.f50) = civil_Week_p0 n z := by kernel_rfl
theorem civil_Week_q0 (n : Nat) (z : civil_Week_t0) : codeK Try.prog civil_Week_sp n (cr (cr (cr (bodyOf Try.f50)))) civil_Week_an.right.right.right (civil_Week_m0 z) (kFin Try.prog civil_Week_rs Try.f50) = civil_Week_s0 n z := by
  rw [codeK_R, civil_Week_e0]
  rfl
def civil_Week_px (_n : Nat) (k0 : civil_Week_t0 → Option (Int × Unit)) (x : (Int × Unit)) : Option (Int × Unit) :=
  let t3 := Int.tmod (w64 ((Int.tmod x.1 (7 : Int)) + 4)) (7 : Int)
  bif (decide (t3 < 0)) then
    k0 (w64 (t3 + 7))
  else
    k0 t3
def civil_Week (n : Nat) (x : (Int × Unit)) : Option (Int × Unit) := civil_Week_px n (civil_Week_s0 n) x
theorem civil_Week_ex (n : Nat) (rc : Code → An → St → (Ex → St → Option (Int × Unit)) → Option (Int × Unit)) (x : (Int × Unit)) : codeR rc Try.prog civil_Week_sp n (bodyOf Try.f50) civil_Week_an (start civil_Week_ps x (Func.ntmps Try.f50)) (kFin Try.prog civil_Week_rs Try.f50) = civil_Week_px n (fun y => rc (cr (cr (cr (bodyOf Try.f50)))) civil_Week_an.right.right.right (civil_Week_m0 y) (kFin Try.prog civil_Week_rs Try.f50)) x := by kernel_rfl
theorem civil_Week_qx (n : Nat) (x : (Int × Unit)) : codeK Try.prog civil_Week_sp n (bodyOf Try.f50) civil_Week_an (start civil_Week_ps x (Func.ntmps Try.f50)) (kFin Try.prog civil_Week_rs Try.f50) = civil_Week n x := by
  have h0 : (fun y => codeK Try.prog civil_Week_sp n (cr (cr (cr (bodyOf Try.f50)))) civil_Week_an.right.right.right (civil_Week_m0 y) (kFin Try.prog civil_Week_rs Try.f50)) = (civil_Week_s0 n) := funext fun y => by
    have := civil_Week_q0 n  y
    exact this
  rw [codeK_R, civil_Week_ex]
  rw [h0]
  rfl
def civil_Week_spec : Sp := ⟨civil_Week_ps, civil_Week_rs, civil_Week⟩
theorem civil_Week_ok : SoundX Try.prog CX 50 (.f civil_Week_spec) := sound_of look_nil Try.func50 (by kernel_rfl) rfl civil_Week_an civil_Week_spec rfl rfl civil_Week_qx

/-! ### noonmark/dayform.Of -/
abbrev dayform_Of_ps : Ty := (.pair T_api_Day T_api_At)
abbrev dayform_Of_rs : Ty := T_api_At
def dayform_Of_sp : Specs := look [(47, .f dayform_right_spec), (48, .f civil_Long_spec), (49, .f civil_Days_spec), (50, .f civil_Week_spec)]
def dayform_Of_an : An := (.s .o (.s .o (.s .o (.k [] [1,2,3,8] 1 .o .o))))
abbrev dayform_Of_t0 := Int × Int × Int × D_api_Day
def dayform_Of_m0 (z : dayform_Of_t0) : St := ⟨[.junk, .v ⟨(.int .i64), z.1⟩, .v ⟨(.int .i64), z.2.1⟩, .v ⟨(.ptr 0 0 T_api_Day), ()⟩, .junk, .junk, .junk, .junk, .v ⟨(.int .i64), z.2.2.1⟩, .junk, .junk, .junk, .junk, .junk, .junk, .junk, .junk, .junk, .junk, .junk, .junk, .junk, .junk, .junk, .junk, .junk, .junk, .junk, .junk, .junk, .junk, .junk, .junk, .junk, .junk, .junk, .junk, .junk, .junk, .junk, .junk, .junk, .junk, .junk, .junk, .junk, .junk, .junk, .junk, .junk, .junk, .junk, .junk, .junk, .junk], [some (.one ⟨T_api_Day, z.2.2.2⟩)]⟩
def dayform_Of_p0 (n : Nat) (z : dayform_Of_t0) : Option D_api_At :=
  ((civil_Days n (z.1, (z.2.1, (z.2.2.1, ()))))).bind fun v3 =>
  bif (v3.2.1 != 0) then
    some ((0 : Int), (v3.2.1, ()))
  else
    ((civil_Week n (v3.1, ()))).bind fun v4 =>
    let t7 := Int.tmod (w64 ((w64 (z.2.2.2.2.2.1 - v4.1)) + 7)) (7 : Int)
    bif (z.2.2.2.1 == 0) then
      some (v3.1, ((0 : Int), ()))
    else
      bif (z.2.2.2.1 == 2) then
        some ((w64 (v3.1 + t7)), ((0 : Int), ()))
      else
        some ((w64 (v3.1 - (Int.tmod (w64 (7 - t7)) (7 : Int)))), ((0 : Int), ()))
def dayform_Of_s0 (n : Nat) (z : dayform_Of_t0) : Option D_api_At := dayform_Of_p0 n z
theorem dayform_Of_e0 (n : Nat) (rc : Code → An → St → (Ex → St → Option D_api_At) → Option D_api_At) (z : dayform_Of_t0) : codeR rc Try.prog dayform_Of_sp n (cr (cr (cr (cr (bodyOf Try.f30))))) dayform_Of_an.right.right.right.right (dayform_Of_m0 z) (kFin Try.prog dayform_Of_rs Try.f30) = dayform_Of_p0 n z := by kernel_rfl
theorem dayform_Of_q0 (n : Nat) (z : dayform_Of_t0) : codeK Try.prog dayform_Of_sp n (cr (cr (cr (cr (bodyOf Try.f30))))) dayform_Of_an.right.right.right.right (dayform_Of_m0 z) (kFin Try.prog dayform_Of_rs Try.f30) = dayform_Of_s0 n z := by
  rw [codeK_R, dayform_Of_e0]
  rfl
def dayform_Of_px (n : Nat) (k0 : dayform_Of_t0 → Option D_api_At) (x : (D_api_Day × D_api_At)) : Option D_api_At :=
  ((dayform_right n (x.1, ()))).bind fun v1 =>
  bif (!v1.1) then
    some ((0 : Int), ((1 : Int), ()))
  else
    bif (x.1.1 == 1) then
      ((civil_Long n (x.2.1, (x.2.2.1, ())))).bind fun v2 =>
      k0 (x.2.1, x.2.2.1, v2.1, x.1)
    else
      k0 (x.2.1, x.2.2.1, x.1.2.1, x.1)
def dayform_Of (n : Nat) (x : (D_api_Day × D_api_At)) : Option D_api_At := dayform_Of_px n (dayform_Of_s0 n) x
theorem dayform_Of_ex (n : Nat) (rc : Code → An → St → (Ex → St → Option D_api_At) → Option D_api_At) (x : (D_api_Day × D_api_At)) : codeR rc Try.prog dayform_Of_sp n (bodyOf Try.f30) dayform_Of_an (start dayform_Of_ps x (Func.ntmps Try.f30)) (kFin Try.prog dayform_Of_rs Try.f30) = dayform_Of_px n (fun y => rc (cr (cr (cr (cr (bodyOf Try.f30))))) dayform_Of_an.right.right.right.right (dayform_Of_m0 y) (kFin Try.prog dayform_Of_rs Try.f30)) x := by kernel_rfl
theorem dayform_Of_qx (n : Nat) (x : (D_api_Day × D_api_At)) : codeK Try.prog dayform_Of_sp n (bodyOf Try.f30) dayform_Of_an (start dayform_Of_ps x (Func.ntmps Try.f30)) (kFin Try.prog dayform_Of_rs Try.f30) = dayform_Of n x := by
  have h0 : (fun y => codeK Try.prog dayform_Of_sp n (cr (cr (cr (cr (bodyOf Try.f30))))) dayform_Of_an.right.right.right.right (dayform_Of_m0 y) (kFin Try.prog dayform_Of_rs Try.f30)) = (dayform_Of_s0 n) := funext fun y => by
    have := dayform_Of_q0 n  y
    exact this
  rw [codeK_R, dayform_Of_ex]
  rw [h0]
  rfl
def dayform_Of_spec : Sp := ⟨dayform_Of_ps, dayform_Of_rs, dayform_Of⟩
theorem dayform_Of_ok : SoundX Try.prog CX 30 (.f dayform_Of_spec) := sound_of (look_cons dayform_right_ok (look_cons civil_Long_ok (look_cons civil_Days_ok (look_cons civil_Week_ok look_nil)))) Try.func30 (by kernel_rfl) rfl dayform_Of_an dayform_Of_spec rfl rfl dayform_Of_qx

/-! ### (noonmark/expand.lasting).fire -/
abbrev expand_lasting_fire_ps : Ty := (.pair T_api_Rule T_api_At)
abbrev expand_lasting_fire_rs : Ty := (.pair T_expand_Fire (.pair .bool .unit))
def expand_lasting_fire_sp : Specs := look [(30, .f dayform_Of_spec), (52, .f expand_lasting_first_spec), (53, .f expand_lasting_last_spec)]
def expand_lasting_fire_an : An := .o
def expand_lasting_fire_px (n : Nat) (x : (D_api_Rule × D_api_At)) : Option (D_expand_Fire × (Bool × Unit)) :=
  ((expand_lasting_first n (x.1, ()))).bind fun v1 =>
  bif (decide (x.2.2.1 < v1.1)) then
    some (((0 : Int), ((0 : Int), ((0 : Int), ((0 : Int), ())))), (false, ()))
  else
    ((expand_lasting_last n (x.1, ()))).bind fun v2 =>
    bif (decide (x.2.2.1 > v2.1)) then
      some (((0 : Int), ((0 : Int), ((0 : Int), ((0 : Int), ())))), (false, ()))
    else
      ((dayform_Of n (x.1.2.2.2.2.1, (x.2.2.1, (x.1.2.2.2.1, ()))))).bind fun v3 =>
      some ((x.2.1, (x.2.2.1, ((w64 ((w64 (v3.1 * 86400)) + x.1.2.2.2.2.2.1.1)), ((0 : Int), ())))), ((v3.2.1 == 0), ()))
def expand_lasting_fire (n : Nat) (x : (D_api_Rule × D_api_At)) : Option (D_expand_Fire × (Bool × Unit)) := expand_lasting_fire_px n x
theorem expand_lasting_fire_ex (n : Nat) (rc : Code → An → St → (Ex → St → Option (D_expand_Fire × (Bool × Unit))) → Option (D_expand_Fire × (Bool × Unit))) (x : (D_api_Rule × D_api_At)) : codeR rc Try.prog expand_lasting_fire_sp n (bodyOf Try.f54) expand_lasting_fire_an (start expand_lasting_fire_ps x (Func.ntmps Try.f54)) (kFin Try.prog expand_lasting_fire_rs Try.f54) = expand_lasting_fire_px n x := by kernel_rfl
theorem expand_lasting_fire_qx (n : Nat) (x : (D_api_Rule × D_api_At)) : codeK Try.prog expand_lasting_fire_sp n (bodyOf Try.f54) expand_lasting_fire_an (start expand_lasting_fire_ps x (Func.ntmps Try.f54)) (kFin Try.prog expand_lasting_fire_rs Try.f54) = expand_lasting_fire n x := by
  rw [codeK_R, expand_lasting_fire_ex]
  rfl
def expand_lasting_fire_spec : Sp := ⟨expand_lasting_fire_ps, expand_lasting_fire_rs, expand_lasting_fire⟩
theorem expand_lasting_fire_ok : SoundX Try.prog CX 54 (.f expand_lasting_fire_spec) := sound_of (look_cons dayform_Of_ok (look_cons expand_lasting_first_ok (look_cons expand_lasting_last_ok look_nil))) Try.func54 (by kernel_rfl) rfl expand_lasting_fire_an expand_lasting_fire_spec rfl rfl expand_lasting_fire_qx

/-! ### noonmark/expand.Letter -/
abbrev expand_Letter_ps : Ty := (.pair (.list T_api_Rule) .unit)
abbrev expand_Letter_rs : Ty := (.pair .str .unit)
def expand_Letter_sp : Specs := look [(52, .f expand_lasting_first_spec), (53, .f expand_lasting_last_spec), (54, .f expand_lasting_fire_spec), (55, .f expand_order_spec)]
def expand_Letter_an : An := (.s .o (.s .o (.k [] [0,3] 0 (.k [] [0,3,10,11,12] 0 .o (.b (.l [] [0,3,10,11,12] 0 (.s .o (.s .o (.k [(3, (.opt T_expand_Fire), 0)] [0,3,10,11,12] 0 (.b (.s .o (.s .o (.k [] [0,3,4,5,6,7,10,11,12] 2 .o (.b (.l [] [0,3,4,5,6,7,10,11,12] 2 .o)))))) .o)))))) .o)))
abbrev expand_Letter_t0 := (List D_api_Rule) × (Option D_expand_Fire)
def expand_Letter_m0 (z : expand_Letter_t0) : St := ⟨[.v ⟨(.list T_api_Rule), z.1⟩, .junk, .junk, .v ⟨(.opt T_expand_Fire), z.2⟩, .junk, .junk, .junk, .junk, .junk, .junk, .junk, .junk, .junk, .junk, .junk, .junk, .junk, .junk, .junk, .junk, .junk, .junk, .junk, .junk, .junk, .junk, .junk, .junk, .junk, .junk, .junk, .junk, .junk, .junk, .junk, .junk, .junk, .junk, .junk, .junk, .junk, .junk, .junk, .junk, .junk, .junk, .junk, .junk, .junk, .junk, .junk, .junk, .junk, .junk, .junk, .junk, .junk, .junk, .junk, .junk, .junk, .junk, .junk, .junk, .junk], []⟩
abbrev expand_Letter_t1 := (List D_api_Rule) × (Option D_expand_Fire) × (List D_api_Rule) × Int × Int
def expand_Letter_m1 (z : expand_Letter_t1) : St := ⟨[.v ⟨(.list T_api_Rule), z.1⟩, .junk, .junk, .v ⟨(.opt T_expand_Fire), z.2.1⟩, .junk, .junk, .junk, .junk, .junk, .junk, .v ⟨(.list T_api_Rule), z.2.2.1⟩, .v ⟨(.int .i64), z.2.2.2.1⟩, .v ⟨(.int .i64), z.2.2.2.2⟩, .junk, .junk, .junk, .junk, .junk, .junk, .junk, .junk, .junk, .junk, .junk, .junk, .junk, .junk, .junk, .junk, .junk, .junk, .junk, .junk, .junk, .junk, .junk, .junk, .junk, .junk, .junk, .junk, .junk, .junk, .junk, .junk, .junk, .junk, .junk, .junk, .junk, .junk, .junk, .junk, .junk, .junk, .junk, .junk, .junk, .junk, .junk, .junk, .junk, .junk, .junk, .junk], []⟩
abbrev expand_Letter_t2 := (List D_api_Rule) × (Option D_expand_Fire) × (List D_api_Rule) × Int × Int
def expand_Letter_m2 (z : expand_Letter_t2) : St := ⟨[.v ⟨(.list T_api_Rule), z.1⟩, .junk, .junk, .v ⟨(.opt T_expand_Fire), z.2.1⟩, .junk, .junk, .junk, .junk, .junk, .junk, .v ⟨(.list T_api_Rule), z.2.2.1⟩, .v ⟨(.int .i64), z.2.2.2.1⟩, .v ⟨(.int .i64), z.2.2.2.2⟩, .junk, .junk, .junk, .junk, .junk, .junk, .junk, .junk, .junk, .junk, .junk, .junk, .junk, .junk, .junk, .junk, .junk, .junk, .junk, .junk, .junk, .junk, .junk, .junk, .junk, .junk, .junk, .junk, .junk, .junk, .junk, .junk, .junk, .junk, .junk, .junk, .junk, .junk, .junk, .junk, .junk, .junk, .junk, .junk, .junk, .junk, .junk, .junk, .junk, .junk, .junk, .junk], []⟩
abbrev expand_Letter_t3 := (List D_api_Rule) × (Option D_expand_Fire) × (List D_api_Rule) × Int × Int
def expand_Letter_m3 (z : expand_Letter_t3) : St := ⟨[.v ⟨(.list T_api_Rule), z.1⟩, .junk, .junk, .v ⟨(.opt T_expand_Fire), z.2.1⟩, .junk, .junk, .junk, .junk, .junk, .junk, .v ⟨(.list T_api_Rule), z.2.2.1⟩, .v ⟨(.int .i64), z.2.2.2.1⟩, .v ⟨(.int .i64), z.2.2.2.2⟩, .junk, .junk, .junk, .junk, .junk, .junk, .junk, .junk, .junk, .junk, .junk, .junk, .junk, .junk, .junk, .junk, .junk, .junk, .junk, .junk, .junk, .junk, .junk, .junk, .junk, .junk, .junk, .junk, .junk, .junk, .junk, .junk, .junk, .junk, .junk, .junk, .junk, .junk, .junk, .junk, .junk, .junk, .junk, .junk, .junk, .junk, .junk, .junk, .junk, .junk, .junk, .junk], []⟩
abbrev expand_Letter_t4 := (List D_api_Rule) × (Option D_expand_Fire) × Int × Int × (List D_api_Rule) × Int × Int × D_api_Rule × D_api_Rule
def expand_Letter_m4 (z : expand_Letter_t4) : St := ⟨[.v ⟨(.list T_api_Rule), z.1⟩, .junk, .junk, .v ⟨(.opt T_expand_Fire), z.2.1⟩, .v ⟨(.int .i64), z.2.2.1⟩, .v ⟨(.ptr 0 0 T_api_Rule), ()⟩, .v ⟨(.ptr 1 0 T_api_Rule), ()⟩, .v ⟨(.int .i64), z.2.2.2.1⟩, .junk, .junk, .v ⟨(.list T_api_Rule), z.2.2.2.2.1⟩, .v ⟨(.int .i64), z.2.2.2.2.2.1⟩, .v ⟨(.int .i64), z.2.2.2.2.2.2.1⟩, .junk, .junk, .junk, .junk, .junk, .junk, .junk, .junk, .junk, .junk, .junk, .junk, .junk, .junk, .junk, .junk, .junk, .junk, .junk, .junk, .junk, .junk, .junk, .junk, .junk, .junk, .junk, .junk, .junk, .junk, .junk, .junk, .junk, .junk, .junk, .junk, .junk, .junk, .junk, .junk, .junk, .junk, .junk, .junk, .junk, .junk, .junk, .junk, .junk, .junk, .junk, .junk], [some (.one ⟨T_api_Rule, z.2.2.2.2.2.2.2.1⟩), some (.one ⟨T_api_Rule, z.2.2.2.2.2.2.2.2⟩)]⟩
abbrev expand_Letter_t5 := (List D_api_Rule) × (Option D_expand_Fire) × Int × Int × (List D_api_Rule) × Int × Int × D_api_Rule × D_api_Rule
def expand_Letter_m5 (z : expand_Letter_t5) : St := ⟨[.v ⟨(.list T_api_Rule), z.1⟩, .junk, .junk, .v ⟨(.opt T_expand_Fire), z.2.1⟩, .v ⟨(.int .i64), z.2.2.1⟩, .v ⟨(.ptr 0 0 T_api_Rule), ()⟩, .v ⟨(.ptr 1 0 T_api_Rule), ()⟩, .v ⟨(.int .i64), z.2.2.2.1⟩, .junk, .junk, .v ⟨(.list T_api_Rule), z.2.2.2.2.1⟩, .v ⟨(.int .i64), z.2.2.2.2.2.1⟩, .v ⟨(.int .i64), z.2.2.2.2.2.2.1⟩, .junk, .junk, .junk, .junk, .junk, .junk, .junk, .junk, .junk, .junk, .junk, .junk, .junk, .junk, .junk, .junk, .junk, .junk, .junk, .junk, .junk, .junk, .junk, .junk, .junk, .junk, .junk, .junk, .junk, .junk, .junk, .junk, .junk, .junk, .junk, .junk, .junk, .junk, .junk, .junk, .junk, .junk, .junk, .junk, .junk, .junk, .junk, .junk, .junk, .junk, .junk, .junk], [some (.one ⟨T_api_Rule, z.2.2.2.2.2.2.2.1⟩), some (.one ⟨T_api_Rule, z.2.2.2.2.2.2.2.2⟩)]⟩
def expand_Letter_p0 (_n : Nat) (z : expand_Letter_t0) : Option (ByteArray × Unit) :=
  bif (Option.isNone z.2) then
    some ((⟨#[]⟩ : ByteArray), ())
  else
    (z.2).bind fun q3 =>
    bif decide (0 ≤ q3.1) then
      ((z.1[Int.toNat q3.1]?)).bind fun e4 =>
      some (e4.2.2.2.2.2.2.2.1, ())
    else none
def expand_Letter_s0 (n : Nat) (z : expand_Letter_t0) : Option (ByteArray × Unit) := expand_Letter_p0 n z
theorem expand_Letter_e0 (n : Nat) (rc : Code → An → St → (Ex → St → Option (ByteArray × Unit)) → Option (ByteArray × Unit)) (z : expand_Letter_t0) : codeR rc Try.prog expand_Letter_sp n (cr (cr (cr (bodyOf Try.f36)))) expand_Letter_an.right.right.right (expand_Letter_m0 z) (kFin Try.prog expand_Letter_rs Try.f36) = expand_Letter_p0 n z := by kernel_rfl
theorem expand_Letter_q0 (n : Nat) (z : expand_Letter_t0) : codeK Try.prog expand_Letter_sp n (cr (cr (cr (bodyOf Try.f36)))) expand_Letter_an.right.right.right (expand_Letter_m0 z) (kFin Try.prog expand_Letter_rs Try.f36) = expand_Letter_s0 n z := by
  rw [codeK_R, expand_Letter_e0]
  rfl
def expand_Letter_p3 (_n : Nat) (_k0 : expand_Letter_t0 → Option (ByteArray × Unit)) (r2 : expand_Letter_t2 → Option (ByteArray × Unit)) (z : expand_Letter_t3) : Option (ByteArray × Unit) :=
  r2 (z.1, z.2.1, z.2.2.1, z.2.2.2.1, (w64 (z.2.2.2.2 + 1)))
def expand_Letter_s3 (n : Nat) (k0 : expand_Letter_t0 → Option (ByteArray × Unit)) (r2 : expand_Letter_t2 → Option (ByteArray × Unit)) (z : expand_Letter_t3) : Option (ByteArray × Unit) := expand_Letter_p3 n k0 r2 z
theorem expand_Letter_e3 (n : Nat) (k0 : St → Option (ByteArray × Unit)) (r2 : St → Option (ByteArray × Unit)) (rc : Code → An → St → (Ex → St → Option (ByteArray × Unit)) → Option (ByteArray × Unit)) (z : expand_Letter_t3) : codeR rc Try.prog expand_Letter_sp n (cr (cr (cr (cl (cl (cr (cl (cr (cr (bodyOf Try.f36)))))))))) expand_Letter_an.right.right.left.right.left.left.right.right.right (expand_Letter_m3 z) (kSeq r2 expand_Letter_an.right.right.left.right.left (kBlk 0 (kSeq k0 expand_Letter_an.right.right (kFin Try.prog expand_Letter_rs Try.f36)))) = expand_Letter_p3 n (fun y => k0 (expand_Letter_m0 y)) (fun y => r2 (expand_Letter_m2 y)) z := by kernel_rfl
theorem expand_Letter_q3 (n : Nat) (k0 : St → Option (ByteArray × Unit)) (r2 : St → Option (ByteArray × Unit)) (z : expand_Letter_t3) : codeK Try.prog expand_Letter_sp n (cr (cr (cr (cl (cl (cr (cl (cr (cr (bodyOf Try.f36)))))))))) expand_Letter_an.right.right.left.right.left.left.right.right.right (expand_Letter_m3 z) (kSeq r2 expand_Letter_an.right.right.left.right.left (kBlk 0 (kSeq k0 expand_Letter_an.right.right (kFin Try.prog expand_Letter_rs Try.f36)))) = expand_Letter_s3 n (fun y => k0 (expand_Letter_m0 y)) (fun y => r2 (expand_Letter_m2 y)) z := by
  rw [codeK_R, expand_Letter_e3]
  rfl
def expand_Letter_p5 (n : Nat) (_k0 : expand_Letter_t0 → Option (ByteArray × Unit)) (_r2 : expand_Letter_t2 → Option (ByteArray × Unit)) (k3 : expand_Letter_t3 → Option (ByteArray × Unit)) (r5 : expand_Letter_t5 → Option (ByteArray × Unit)) (z : expand_Letter_t5) : Option (ByteArray × Unit) :=
  ((expand_lasting_last n (z.2.2.2.2.2.2.2.2, ()))).bind fun v5 =>
  ((expand_lasting_first n (z.2.2.2.2.2.2.2.2, ()))).bind fun v6 =>
  bif (decide (z.2.2.2.1 ≤ (imin v5.1 (w64 (v6.1 + 8))))) then
    bif (z.2.2.2.2.2.2.2.1.2.2.2.2.2.2.1 == 0) then
      ((expand_lasting_fire n (z.2.2.2.2.2.2.2.2, (z.2.2.1, (z.2.2.2.1, ()))))).bind fun v9 =>
      bif (!v9.2.1) then
        r5 (z.1, z.2.1, z.2.2.1, (w64 (z.2.2.2.1 + 1)), z.2.2.2.2.1, z.2.2.2.2.2.1, z.2.2.2.2.2.2.1, z.2.2.2.2.2.2.2.1, z.2.2.2.2.2.2.2.2)
      else
        bif (Option.isNone z.2.1) then
          k3 (z.1, (some v9.1), z.2.2.2.2.1, z.2.2.2.2.2.1, z.2.2.2.2.2.2.1)
        else
          (z.2.1).bind fun q11 =>
          ((expand_order n (v9.1, (q11, ())))).bind fun v12 =>
          bif (decide (v12.1 < 0)) then
            k3 (z.1, (some v9.1), z.2.2.2.2.1, z.2.2.2.2.2.1, z.2.2.2.2.2.2.1)
          else
            k3 (z.1, z.2.1, z.2.2.2.2.1, z.2.2.2.2.2.1, z.2.2.2.2.2.2.1)
    else
      k3 (z.1, z.2.1, z.2.2.2.2.1, z.2.2.2.2.2.1, z.2.2.2.2.2.2.1)
  else
    k3 (z.1, z.2.1, z.2.2.2.2.1, z.2.2.2.2.2.1, z.2.2.2.2.2.2.1)
def expand_Letter_s5 (n : Nat) (k0 : expand_Letter_t0 → Option (ByteArray × Unit)) (r2 : expand_Letter_t2 → Option (ByteArray × Unit)) (k3 : expand_Letter_t3 → Option (ByteArray × Unit)) (r5 : expand_Letter_t5 → Option (ByteArray × Unit)) (z : expand_Letter_t5) : Option (ByteArray × Unit) := expand_Letter_p5 n k0 r2 k3 r5 z
theorem expand_Letter_e5 (n : Nat) (k0 : St → Option (ByteArray × Unit)) (r2 : St → Option (ByteArray × Unit)) (k3 : St → Option (ByteArray × Unit)) (r5 : St → Option (ByteArray × Unit)) (rc : Code → An → St → (Ex → St → Option (ByteArray × Unit)) → Option (ByteArray × Unit)) (z : expand_Letter_t5) : codeR rc Try.prog expand_Letter_sp n (cl (cl (cr (cr (cr (cl (cl (cr (cr (cl (cl (cr (cl (cr (cr (bodyOf Try.f36)))))))))))))))) expand_Letter_an.right.right.left.right.left.left.right.right.left.left.right.right.right.left.left (expand_Letter_m5 z) (kSeq r5 expand_Letter_an.right.right.left.right.left.left.right.right.left.left.right.right.right.left (kBlk 2 (kBlk 1 (kSeq k3 expand_Letter_an.right.right.left.right.left.left.right.right (kSeq r2 expand_Letter_an.right.right.left.right.left (kBlk 0 (kSeq k0 expand_Letter_an.right.right (kFin Try.prog expand_Letter_rs Try.f36)))))))) = expand_Letter_p5 n (fun y => k0 (expand_Letter_m0 y)) (fun y => r2 (expand_Letter_m2 y)) (fun y => k3 (expand_Letter_m3 y)) (fun y => r5 (expand_Letter_m5 y)) z := by kernel_rfl
theorem expand_Letter_q5 (n : Nat) (k0 : St → Option (ByteArray × Unit)) (r2 : St → Option (ByteArray × Unit)) (k3 : St → Option (ByteArray × Unit)) (r5 : St → Option (ByteArray × Unit)) (z : expand_Letter_t5) : codeK Try.prog expand_Letter_sp n (cl (cl (cr (cr (cr (cl (cl (cr (cr (cl (cl (cr (cl (cr (cr (bodyOf Try.f36)))))))))))))))) expand_Letter_an.right.right.left.right.left.left.right.right.left.left.right.right.right.left.left (expand_Letter_m5 z) (kSeq r5 expand_Letter_an.right.right.left.right.left.left.right.right.left.left.right.right.right.left (kBlk 2 (kBlk 1 (kSeq k3 expand_Letter_an.right.right.left.right.left.left.right.right (kSeq r2 expand_Letter_an.right.right.left.right.left (kBlk 0 (kSeq k0 expand_Letter_an.right.right (kFin Try.prog expand_Letter_rs Try.f36)))))))) = expand_Letter_s5 n (fun y => k0 (expand_Letter_m0 y)) (fun y => r2 (expand_Letter_m2 y)) (fun y => k3 (expand_Letter_m3 y)) (fun y => r5 (expand_Letter_m5 y)) z := by
  rw [codeK_R, expand_Letter_e5]
  rfl
def expand_Letter_s4 (n : Nat) (k0 : expand_Letter_t0 → Option (ByteArray × Unit)) (r2 : expand_Letter_t2 → Option (ByteArray × Unit)) (k3 : expand_Letter_t3 → Option (ByteArray × Unit)) (z : expand_Letter_t4) : Option (ByteArray × Unit) :=
  rounds (fun r5 x' => expand_Letter_s5 n k0 r2 k3 r5 x') n (z.1, z.2.1, z.2.2.1, z.2.2.2.1, z.2.2.2.2.1, z.2.2.2.2.2.1, z.2.2.2.2.2.2.1, z.2.2.2.2.2.2.2.1, z.2.2.2.2.2.2.2.2)
theorem expand_Letter_q4 (n : Nat) (k0 : St → Option (ByteArray × Unit)) (r2 : St → Option (ByteArray × Unit)) (k3 : St → Option (ByteArray × Unit)) (z : expand_Letter_t4) : codeK Try.prog expand_Letter_sp n (cr (cr (cr (cl (cl (cr (cr (cl (cl (cr (cl (cr (cr (bodyOf Try.f36)))))))))))))) expand_Letter_an.right.right.left.right.left.left.right.right.left.left.right.right.right (expand_Letter_m4 z) (kBlk 1 (kSeq k3 expand_Letter_an.right.right.left.right.left.left.right.right (kSeq r2 expand_Letter_an.right.right.left.right.left (kBlk 0 (kSeq k0 expand_Letter_an.right.right (kFin Try.prog expand_Letter_rs Try.f36)))))) = expand_Letter_s4 n (fun y => k0 (expand_Letter_m0 y)) (fun y => r2 (expand_Letter_m2 y)) (fun y => k3 (expand_Letter_m3 y)) z :=
  Eq.trans (b := rounds (fun r5 st => codeK Try.prog expand_Letter_sp n (cl (cl (cr (cr (cr (cl (cl (cr (cr (cl (cl (cr (cl (cr (cr (bodyOf Try.f36)))))))))))))))) expand_Letter_an.right.right.left.right.left.left.right.right.left.left.right.right.right.left.left st (kSeq r5 expand_Letter_an.right.right.left.right.left.left.right.right.left.left.right.right.right.left (kBlk 2 (kBlk 1 (kSeq k3 expand_Letter_an.right.right.left.right.left.left.right.right (kSeq r2 expand_Letter_an.right.right.left.right.left (kBlk 0 (kSeq k0 expand_Letter_an.right.right (kFin Try.prog expand_Letter_rs Try.f36))))))))) n (expand_Letter_m5 (z.1, z.2.1, z.2.2.1, z.2.2.2.1, z.2.2.2.2.1, z.2.2.2.2.2.1, z.2.2.2.2.2.2.1, z.2.2.2.2.2.2.2.1, z.2.2.2.2.2.2.2.2))) (by kernel_rfl) (rounds_mk expand_Letter_m5 (fun r5 x' => by
    have := (expand_Letter_q5 n k0 r2 k3 r5 x')
    exact this) n _)
def expand_Letter_p2 (n : Nat) (k0 : expand_Letter_t0 → Option (ByteArray × Unit)) (_r2 : expand_Letter_t2 → Option (ByteArray × Unit)) (k3 : expand_Letter_t3 → Option (ByteArray × Unit)) (k4 : expand_Letter_t4 → Option (ByteArray × Unit)) (z : expand_Letter_t2) : Option (ByteArray × Unit) :=
  bif (decide (z.2.2.2.2 < z.2.2.2.1)) then
    bif decide (0 ≤ z.2.2.2.2) then
      ((z.2.2.1[Int.toNat z.2.2.2.2]?)).bind fun e1 =>
      ((expand_lasting_first n (e1, ()))).bind fun v2 =>
      k4 (z.1, z.2.1, z.2.2.2.2, v2.1, z.2.2.1, z.2.2.2.1, z.2.2.2.2, e1, e1)
    else none
  else
    k0 (z.1, z.2.1)
def expand_Letter_s2 (n : Nat) (k0 : expand_Letter_t0 → Option (ByteArray × Unit)) (r2 : expand_Letter_t2 → Option (ByteArray × Unit)) (z : expand_Letter_t2) : Option (ByteArray × Unit) := expand_Letter_p2 n k0 r2 (expand_Letter_s3 n k0 r2) (expand_Letter_s4 n k0 r2 (expand_Letter_s3 n k0 r2)) z
theorem expand_Letter_e2 (n : Nat) (k0 : St → Option (ByteArray × Unit)) (r2 : St → Option (ByteArray × Unit)) (rc : Code → An → St → (Ex → St → Option (ByteArray × Unit)) → Option (ByteArray × Unit)) (z : expand_Letter_t2) : codeR rc Try.prog expand_Letter_sp n (cl (cl (cr (cl (cr (cr (bodyOf Try.f36))))))) expand_Letter_an.right.right.left.right.left.left (expand_Letter_m2 z) (kSeq r2 expand_Letter_an.right.right.left.right.left (kBlk 0 (kSeq k0 expand_Letter_an.right.right (kFin Try.prog expand_Letter_rs Try.f36)))) = expand_Letter_p2 n (fun y => k0 (expand_Letter_m0 y)) (fun y => r2 (expand_Letter_m2 y)) (fun y => rc (cr (cr (cr (cl (cl (cr (cl (cr (cr (bodyOf Try.f36)))))))))) expand_Letter_an.right.right.left.right.left.left.right.right.right (expand_Letter_m3 y) (kSeq r2 expand_Letter_an.right.right.left.right.left (kBlk 0 (kSeq k0 expand_Letter_an.right.right (kFin Try.prog expand_Letter_rs Try.f36))))) (fun y => rc (cr (cr (cr (cl (cl (cr (cr (cl (cl (cr (cl (cr (cr (bodyOf Try.f36)))))))))))))) expand_Letter_an.right.right.left.right.left.left.right.right.left.left.right.right.right (expand_Letter_m4 y) (kBlk 1 (kSeq (fun st => rc (cr (cr (cr (cl (cl (cr (cl (cr (cr (bodyOf Try.f36)))))))))) expand_Letter_an.right.right.left.right.left.left.right.right.right st (kSeq r2 expand_Letter_an.right.right.left.right.left (kBlk 0 (kSeq k0 expand_Letter_an.right.right (kFin Try.prog expand_Letter_rs Try.f36))))) expand_Letter_an.right.right.left.right.left.left.right.right (kSeq r2 expand_Letter_an.right.right.left.right.left (kBlk 0 (kSeq k0 expand_Letter_an.right.right (kFin Try.prog expand_Letter_rs Try.f36))))))) z := by kernel_rfl
theorem expand_Letter_q2 (n : Nat) (k0 : St → Option (ByteArray × Unit)) (r2 : St → Option (ByteArray × Unit)) (z : expand_Letter_t2) : codeK Try.prog expand_Letter_sp n (cl (cl (cr (cl (cr (cr (bodyOf Try.f36))))))) expand_Letter_an.right.right.left.right.left.left (expand_Letter_m2 z) (kSeq r2 expand_Letter_an.right.right.left.right.left (kBlk 0 (kSeq k0 expand_Letter_an.right.right (kFin Try.prog expand_Letter_rs Try.f36)))) = expand_Letter_s2 n (fun y => k0 (expand_Letter_m0 y)) (fun y => r2 (expand_Letter_m2 y)) z := by
  have h3 : (fun y => codeK Try.prog expand_Letter_sp n (cr (cr (cr (cl (cl (cr (cl (cr (cr (bodyOf Try.f36)))))))))) expand_Letter_an.right.right.left.right.left.left.right.right.right (expand_Letter_m3 y) (kSeq r2 expand_Letter_an.right.right.left.right.left (kBlk 0 (kSeq k0 expand_Letter_an.right.right (kFin Try.prog expand_Letter_rs Try.f36))))) = (expand_Letter_s3 n (fun y => k0 (expand_Letter_m0 y)) (fun y => r2 (expand_Letter_m2 y))) := funext fun y => by
    have := expand_Letter_q3 n k0 r2 y
    exact this
  have h4 : (fun y => codeK Try.prog expand_Letter_sp n (cr (cr (cr (cl (cl (cr (cr (cl (cl (cr (cl (cr (cr (bodyOf Try.f36)))))))))))))) expand_Letter_an.right.right.left.right.left.left.right.right.left.left.right.right.right (expand_Letter_m4 y) (kBlk 1 (kSeq (fun st => codeK Try.prog expand_Letter_sp n (cr (cr (cr (cl (cl (cr (cl (cr (cr (bodyOf Try.f36)))))))))) expand_Letter_an.right.right.left.right.left.left.right.right.right st (kSeq r2 expand_Letter_an.right.right.left.right.left (kBlk 0 (kSeq k0 expand_Letter_an.right.right (kFin Try.prog expand_Letter_rs Try.f36))))) expand_Letter_an.right.right.left.right.left.left.right.right (kSeq r2 expand_Letter_an.right.right.left.right.left (kBlk 0 (kSeq k0 expand_Letter_an.right.right (kFin Try.prog expand_Letter_rs Try.f36))))))) = (expand_Letter_s4 n (fun y => k0 (expand_Letter_m0 y)) (fun y => r2 (expand_Letter_m2 y)) (expand_Letter_s3 n (fun y => k0 (expand_Letter_m0 y)) (fun y => r2 (expand_Letter_m2 y)))) := funext fun y => by
    have := expand_Letter_q4 n k0 r2 (fun st => codeK Try.prog expand_Letter_sp n (cr (cr (cr (cl (cl (cr (cl (cr (cr (bodyOf Try.f36)))))))))) expand_Letter_an.right.right.left.right.left.left.right.right.right st (kSeq r2 expand_Letter_an.right.right.left.right.left (kBlk 0 (kSeq k0 expand_Letter_an.right.right (kFin Try.prog expand_Letter_rs Try.f36))))) y
    rw [h3] at this; exact this
  rw [codeK_R, expand_Letter_e2]
  rw [h3]
  rw [h4]
  rfl
def expand_Letter_s1 (n : Nat) (k0 : expand_Letter_t0 → Option (ByteArray × Unit)) (z : expand_Letter_t1) : Option (ByteArray × Unit) :=
  rounds (fun r2 x' => expand_Letter_s2 n k0 r2 x') n (z.1, z.2.1, z.2.2.1, z.2.2.2.1, z.2.2.2.2)
theorem expand_Letter_q1 (n : Nat) (k0 : St → Option (ByteArray × Unit)) (z : expand_Letter_t1) : codeK Try.prog expand_Letter_sp n (cr (cl (cr (cr (bodyOf Try.f36))))) expand_Letter_an.right.right.left.right (expand_Letter_m1 z) (kSeq k0 expand_Letter_an.right.right (kFin Try.prog expand_Letter_rs Try.f36)) = expand_Letter_s1 n (fun y => k0 (expand_Letter_m0 y)) z :=
  Eq.trans (b := rounds (fun r2 st => codeK Try.prog expand_Letter_sp n (cl (cl (cr (cl (cr (cr (bodyOf Try.f36))))))) expand_Letter_an.right.right.left.right.left.left st (kSeq r2 expand_Letter_an.right.right.left.right.left (kBlk 0 (kSeq k0 expand_Letter_an.right.right (kFin Try.prog expand_Letter_rs Try.f36))))) n (expand_Letter_m2 (z.1, z.2.1, z.2.2.1, z.2.2.2.1, z.2.2.2.2))) (by kernel_rfl) (rounds_mk expand_Letter_m2 (fun r2 x' => by
    have := (expand_Letter_q2 n k0 r2 x')
    exact this) n _)
def expand_Letter_px (_n : Nat) (k0 : expand_Letter_t0 → Option (ByteArray × Unit)) (k1 : expand_Letter_t1 → Option (ByteArray × Unit)) (x : ((List D_api_Rule) × Unit)) : Option (ByteArray × Unit) :=
  k1 (x.1, (none : Option D_expand_Fire), x.1, (List.length x.1 : Int), (0 : Int))
def expand_Letter (n : Nat) (x : ((List D_api_Rule) × Unit)) : Option (ByteArray × Unit) := expand_Letter_px n (expand_Letter_s0 n) (expand_Letter_s1 n (expand_Letter_s0 n)) x
theorem expand_Letter_ex (n : Nat) (rc : Code → An → St → (Ex → St → Option (ByteArray × Unit)) → Option (ByteArray × Unit)) (x : ((List D_api_Rule) × Unit)) : codeR rc Try.prog expand_Letter_sp n (bodyOf Try.f36) expand_Letter_an (start expand_Letter_ps x (Func.ntmps Try.f36)) (kFin Try.prog expand_Letter_rs Try.f36) = expand_Letter_px n (fun y => rc (cr (cr (cr (bodyOf Try.f36)))) expand_Letter_an.right.right.right (expand_Letter_m0 y) (kFin Try.prog expand_Letter_rs Try.f36)) (fun y => rc (cr (cl (cr (cr (bodyOf Try.f36))))) expand_Letter_an.right.right.left.right (expand_Letter_m1 y) (kSeq (fun st => rc (cr (cr (cr (bodyOf Try.f36)))) expand_Letter_an.right.right.right st (kFin Try.prog expand_Letter_rs Try.f36)) expand_Letter_an.right.right (kFin Try.prog expand_Letter_rs Try.f36))) x := by kernel_rfl
theorem expand_Letter_qx (n : Nat) (x : ((List D_api_Rule) × Unit)) : codeK Try.prog expand_Letter_sp n (bodyOf Try.f36) expand_Letter_an (start expand_Letter_ps x (Func.ntmps Try.f36)) (kFin Try.prog expand_Letter_rs Try.f36) = expand_Letter n x := by
  have h0 : (fun y => codeK Try.prog expand_Letter_sp n (cr (cr (cr (bodyOf Try.f36)))) expand_Letter_an.right.right.right (expand_Letter_m0 y) (kFin Try.prog expand_Letter_rs Try.f36)) = (expand_Letter_s0 n) := funext fun y => by
    have := expand_Letter_q0 n  y
    exact this
  have h1 : (fun y => codeK Try.prog expand_Letter_sp n (cr (cl (cr (cr (bodyOf Try.f36))))) expand_Letter_an.right.right.left.right (expand_Letter_m1 y) (kSeq (fun st => codeK Try.prog expand_Letter_sp n (cr (cr (cr (bodyOf Try.f36)))) expand_Letter_an.right.right.right st (kFin Try.prog expand_Letter_rs Try.f36)) expand_Letter_an.right.right (kFin Try.prog expand_Letter_rs Try.f36))) = (expand_Letter_s1 n (expand_Letter_s0 n)) := funext fun y => by
    have := expand_Letter_q1 n (fun st => codeK Try.prog expand_Letter_sp n (cr (cr (cr (bodyOf Try.f36)))) expand_Letter_an.right.right.right st (kFin Try.prog expand_Letter_rs Try.f36)) y
    rw [h0] at this; exact this
  rw [codeK_R, expand_Letter_ex]
  rw [h0]
  rw [h1]
  rfl
def expand_Letter_spec : Sp := ⟨expand_Letter_ps, expand_Letter_rs, expand_Letter⟩
theorem expand_Letter_ok : SoundX Try.prog CX 36 (.f expand_Letter_spec) := sound_of (look_cons expand_lasting_first_ok (look_cons expand_lasting_last_ok (look_cons expand_lasting_fire_ok (look_cons expand_order_ok look_nil)))) Try.func36 (by kernel_rfl) rfl expand_Letter_an expand_Letter_spec rfl rfl expand_Letter_qx

/-! ### noonmark/expand.Span -/
abbrev expand_Span_ps : Ty := (.pair (.list T_api_Rule) .unit)
abbrev expand_Span_rs : Ty := (.pair (.int .i64) (.pair (.int .i64) (.pair .bool .unit)))
def expand_Span_sp : Specs := look []
def expand_Span_an : An := (.s .o (.k [] [2,3,4] 0 (.k [] [2,3,4,8,9,10] 0 .o (.b (.l [] [2,3,4,8,9,10] 0 (.s .o (.s .o (.k [] [2,3,4,8,9,10] 0 (.b (.s .o (.s .o (.k [] [2,3,4,5,6,7,8,9,10] 1 .o (.k [] [2,3,4,6,7,8,9,10] 1 .o .o))))) .o)))))) .o))
abbrev expand_Span_t0 := Int × Int × Bool
def expand_Span_m0 (z : expand_Span_t0) : St := ⟨[.junk, .junk, .v ⟨(.int .i64), z.1⟩, .v ⟨(.int .i64), z.2.1⟩, .v ⟨.bool, z.2.2⟩, .junk, .junk, .junk, .junk, .junk, .junk, .junk, .junk, .junk, .junk, .junk, .junk, .junk, .junk, .junk, .junk, .junk, .junk, .junk, .junk, .junk, .junk, .junk, .junk, .junk, .junk, .junk, .junk, .junk, .junk, .junk, .junk, .junk, .junk, .junk], []⟩
abbrev expand_Span_t1 := Int × Int × Bool × (List D_api_Rule) × Int × Int
def expand_Span_m1 (z : expand_Span_t1) : St := ⟨[.junk, .junk, .v ⟨(.int .i64), z.1⟩, .v ⟨(.int .i64), z.2.1⟩, .v ⟨.bool, z.2.2.1⟩, .junk, .junk, .junk, .v ⟨(.list T_api_Rule), z.2.2.2.1⟩, .v ⟨(.int .i64), z.2.2.2.2.1⟩, .v ⟨(.int .i64), z.2.2.2.2.2⟩, .junk, .junk, .junk, .junk, .junk, .junk, .junk, .junk, .junk, .junk, .junk, .junk, .junk, .junk, .junk, .junk, .junk, .junk, .junk, .junk, .junk, .junk, .junk, .junk, .junk, .junk, .junk, .junk, .junk], []⟩
abbrev expand_Span_t2 := Int × Int × Bool × (List D_api_Rule) × Int × Int
def expand_Span_m2 (z : expand_Span_t2) : St := ⟨[.junk, .junk, .v ⟨(.int .i64), z.1⟩, .v ⟨(.int .i64), z.2.1⟩, .v ⟨.bool, z.2.2.1⟩, .junk, .junk, .junk, .v ⟨(.list T_api_Rule), z.2.2.2.1⟩, .v ⟨(.int .i64), z.2.2.2.2.1⟩, .v ⟨(.int .i64), z.2.2.2.2.2⟩, .junk, .junk, .junk, .junk, .junk, .junk, .junk, .junk, .junk, .junk, .junk, .junk, .junk, .junk, .junk, .junk, .junk, .junk, .junk, .junk, .junk, .junk, .junk, .junk, .junk, .junk, .junk, .junk, .junk], []⟩
abbrev expand_Span_t3 := Int × Int × Bool × (List D_api_Rule) × Int × Int
def expand_Span_m3 (z : expand_Span_t3) : St := ⟨[.junk, .junk, .v ⟨(.int .i64), z.1⟩, .v ⟨(.int .i64), z.2.1⟩, .v ⟨.bool, z.2.2.1⟩, .junk, .junk, .junk, .v ⟨(.list T_api_Rule), z.2.2.2.1⟩, .v ⟨(.int .i64), z.2.2.2.2.1⟩, .v ⟨(.int .i64), z.2.2.2.2.2⟩, .junk, .junk, .junk, .junk, .junk, .junk, .junk, .junk, .junk, .junk, .junk, .junk, .junk, .junk, .junk, .junk, .junk, .junk, .junk, .junk, .junk, .junk, .junk, .junk, .junk, .junk, .junk, .junk, .junk], []⟩
abbrev expand_Span_t4 := Int × Int × Bool × Int × Int × (List D_api_Rule) × Int × Int × D_api_Rule
def expand_Span_m4 (z : expand_Span_t4) : St := ⟨[.junk, .junk, .v ⟨(.int .i64), z.1⟩, .v ⟨(.int .i64), z.2.1⟩, .v ⟨.bool, z.2.2.1⟩, .v ⟨(.int .i64), z.2.2.2.1⟩, .v ⟨(.ptr 0 0 T_api_Rule), ()⟩, .v ⟨(.int .i64), z.2.2.2.2.1⟩, .v ⟨(.list T_api_Rule), z.2.2.2.2.2.1⟩, .v ⟨(.int .i64), z.2.2.2.2.2.2.1⟩, .v ⟨(.int .i64), z.2.2.2.2.2.2.2.1⟩, .junk, .junk, .junk, .junk, .junk, .junk, .junk, .junk, .junk, .junk, .junk, .junk, .junk, .junk, .junk, .junk, .junk, .junk, .junk, .junk, .junk, .junk, .junk, .junk, .junk, .junk, .junk, .junk, .junk], [some (.one ⟨T_api_Rule, z.2.2.2.2.2.2.2.2⟩)]⟩
abbrev expand_Span_t5 := Int × Int × Bool × Int × (List D_api_Rule) × Int × Int × D_api_Rule
def expand_Span_m5 (z : expand_Span_t5) : St := ⟨[.junk, .junk, .v ⟨(.int .i64), z.1⟩, .v ⟨(.int .i64), z.2.1⟩, .v ⟨.bool, z.2.2.1⟩, .junk, .v ⟨(.ptr 0 0 T_api_Rule), ()⟩, .v ⟨(.int .i64), z.2.2.2.1⟩, .v ⟨(.list T_api_Rule), z.2.2.2.2.1⟩, .v ⟨(.int .i64), z.2.2.2.2.2.1⟩, .v ⟨(.int .i64), z.2.2.2.2.2.2.1⟩, .junk, .junk, .junk, .junk, .junk, .junk, .junk, .junk, .junk, .junk, .junk, .junk, .junk, .junk, .junk, .junk, .junk, .junk, .junk, .junk, .junk, .junk, .junk, .junk, .junk, .junk, .junk, .junk, .junk], [some (.one ⟨T_api_Rule, z.2.2.2.2.2.2.2⟩)]⟩
def expand_Span_p0 (_n : Nat) (z : expand_Span_t0) : Option (Int × (Int × (Bool × Unit))) :=
  some (z.1, (z.2.1, (z.2.2, ())))
def expand_Span_s0 (n : Nat) (z : expand_Span_t0) : Option (Int × (Int × (Bool × Unit))) := expand_Span_p0 n z
theorem expand_Span_e0 (n : Nat) (rc : Code → An → St → (Ex → St → Option (Int × (Int × (Bool × Unit)))) → Option (Int × (Int × (Bool × Unit)))) (z : expand_Span_t0) : codeR rc Try.prog expand_Span_sp n (cr (cr (bodyOf Try.f37))) expand_Span_an.right.right (expand_Span_m0 z) (kFin Try.prog expand_Span_rs Try.f37) = expand_Span_p0 n z := by kernel_rfl
theorem expand_Span_q0 (n : Nat) (z : expand_Span_t0) : codeK Try.prog expand_Span_sp n (cr (cr (bodyOf Try.f37))) expand_Span_an.right.right (expand_Span_m0 z) (kFin Try.prog expand_Span_rs Try.f37) = expand_Span_s0 n z := by
  rw [codeK_R, expand_Span_e0]
  rfl
def expand_Span_p3 (_n : Nat) (_k0 : expand_Span_t0 → Option (Int × (Int × (Bool × Unit)))) (r2 : expand_Span_t2 → Option (Int × (Int × (Bool × Unit)))) (z : expand_Span_t3) : Option (Int × (Int × (Bool × Unit))) :=
  r2 (z.1, z.2.1, z.2.2.1, z.2.2.2.1, z.2.2.2.2.1, (w64 (z.2.2.2.2.2 + 1)))
def expand_Span_s3 (n : Nat) (k0 : expand_Span_t0 → Option (Int × (Int × (Bool × Unit)))) (r2 : expand_Span_t2 → Option (Int × (Int × (Bool × Unit)))) (z : expand_Span_t3) : Option (Int × (Int × (Bool × Unit))) := expand_Span_p3 n k0 r2 z
theorem expand_Span_e3 (n : Nat) (k0 : St → Option (Int × (Int × (Bool × Unit)))) (r2 : St → Option (Int × (Int × (Bool × Unit)))) (rc : Code → An → St → (Ex → St → Option (Int × (Int × (Bool × Unit)))) → Option (Int × (Int × (Bool × Unit)))) (z : expand_Span_t3) : codeR rc Try.prog expand_Span_sp n (cr (cr (cr (cl (cl (cr (cl (cr (bodyOf Try.f37))))))))) expand_Span_an.right.left.right.left.left.right.right.right (expand_Span_m3 z) (kSeq r2 expand_Span_an.right.left.right.left (kBlk 0 (kSeq k0 expand_Span_an.right (kFin Try.prog expand_Span_rs Try.f37)))) = expand_Span_p3 n (fun y => k0 (expand_Span_m0 y)) (fun y => r2 (expand_Span_m2 y)) z := by kernel_rfl
theorem expand_Span_q3 (n : Nat) (k0 : St → Option (Int × (Int × (Bool × Unit)))) (r2 : St → Option (Int × (Int × (Bool × Unit)))) (z : expand_Span_t3) : codeK Try.prog expand_Span_sp n (cr (cr (cr (cl (cl (cr (cl (cr (bodyOf Try.f37))))))))) expand_Span_an.right.left.right.left.left.right.right.right (expand_Span_m3 z) (kSeq r2 expand_Span_an.right.left.right.left (kBlk 0 (kSeq k0 expand_Span_an.right (kFin Try.prog expand_Span_rs Try.f37)))) = expand_Span_s3 n (fun y => k0 (expand_Span_m0 y)) (fun y => r2 (expand_Span_m2 y)) z := by
  rw [codeK_R, expand_Span_e3]
  rfl
def expand_Span_p5 (_n : Nat) (_k0 : expand_Span_t0 → Option (Int × (Int × (Bool × Unit)))) (_r2 : expand_Span_t2 → Option (Int × (Int × (Bool × Unit)))) (k3 : expand_Span_t3 → Option (Int × (Int × (Bool × Unit)))) (z : expand_Span_t5) : Option (Int × (Int × (Bool × Unit))) :=
  k3 ((imin z.1 z.2.2.2.2.2.2.2.2.1), (imax z.2.1 z.2.2.2.1), z.2.2.1, z.2.2.2.2.1, z.2.2.2.2.2.1, z.2.2.2.2.2.2.1)
def expand_Span_s5 (n : Nat) (k0 : expand_Span_t0 → Option (Int × (Int × (Bool × Unit)))) (r2 : expand_Span_t2 → Option (Int × (Int × (Bool × Unit)))) (k3 : expand_Span_t3 → Option (Int × (Int × (Bool × Unit)))) (z : expand_Span_t5) : Option (Int × (Int × (Bool × Unit))) := expand_Span_p5 n k0 r2 k3 z
theorem expand_Span_e5 (n : Nat) (k0 : St → Option (Int × (Int × (Bool × Unit)))) (r2 : St → Option (Int × (Int × (Bool × Unit)))) (k3 : St → Option (Int × (Int × (Bool × Unit)))) (rc : Code → An → St → (Ex → St → Option (Int × (Int × (Bool × Unit)))) → Option (Int × (Int × (Bool × Unit)))) (z : expand_Span_t5) : codeR rc Try.prog expand_Span_sp n (cr (cr (cr (cr (cl (cl (cr (cr (cl (cl (cr (cl (cr (bodyOf Try.f37)))))))))))))) expand_Span_an.right.left.right.left.left.right.right.left.left.right.right.right.right (expand_Span_m5 z) (kBlk 1 (kSeq k3 expand_Span_an.right.left.right.left.left.right.right (kSeq r2 expand_Span_an.right.left.right.left (kBlk 0 (kSeq k0 expand_Span_an.right (kFin Try.prog expand_Span_rs Try.f37)))))) = expand_Span_p5 n (fun y => k0 (expand_Span_m0 y)) (fun y => r2 (expand_Span_m2 y)) (fun y => k3 (expand_Span_m3 y)) z := by kernel_rfl
theorem expand_Span_q5 (n : Nat) (k0 : St → Option (Int × (Int × (Bool × Unit)))) (r2 : St → Option (Int × (Int × (Bool × Unit)))) (k3 : St → Option (Int × (Int × (Bool × Unit)))) (z : expand_Span_t5) : codeK Try.prog expand_Span_sp n (cr (cr (cr (cr (cl (cl (cr (cr (cl (cl (cr (cl (cr (bodyOf Try.f37)))))))))))))) expand_Span_an.right.left.right.left.left.right.right.left.left.right.right.right.right (expand_Span_m5 z) (kBlk 1 (kSeq k3 expand_Span_an.right.left.right.left.left.right.right (kSeq r2 expand_Span_an.right.left.right.left (kBlk 0 (kSeq k0 expand_Span_an.right (kFin Try.prog expand_Span_rs Try.f37)))))) = expand_Span_s5 n (fun y => k0 (expand_Span_m0 y)) (fun y => r2 (expand_Span_m2 y)) (fun y => k3 (expand_Span_m3 y)) z := by
  rw [codeK_R, expand_Span_e5]
  rfl
def expand_Span_p4 (_n : Nat) (_k0 : expand_Span_t0 → Option (Int × (Int × (Bool × Unit)))) (_r2 : expand_Span_t2 → Option (Int × (Int × (Bool × Unit)))) (_k3 : expand_Span_t3 → Option (Int × (Int × (Bool × Unit)))) (k5 : expand_Span_t5 → Option (Int × (Int × (Bool × Unit)))) (z : expand_Span_t4) : Option (Int × (Int × (Bool × Unit))) :=
  bif (z.2.2.2.1 == 0) then
    k5 (z.2.2.2.2.2.2.2.2.2.1, (imax z.2.2.2.2.1 z.2.2.2.2.2.2.2.2.2.1), z.2.2.1, z.2.2.2.2.1, z.2.2.2.2.2.1, z.2.2.2.2.2.2.1, z.2.2.2.2.2.2.2.1, z.2.2.2.2.2.2.2.2)
  else
    k5 (z.1, z.2.1, z.2.2.1, z.2.2.2.2.1, z.2.2.2.2.2.1, z.2.2.2.2.2.2.1, z.2.2.2.2.2.2.2.1, z.2.2.2.2.2.2.2.2)
def expand_Span_s4 (n : Nat) (k0 : expand_Span_t0 → Option (Int × (Int × (Bool × Unit)))) (r2 : expand_Span_t2 → Option (Int × (Int × (Bool × Unit)))) (k3 : expand_Span_t3 → Option (Int × (Int × (Bool × Unit)))) (z : expand_Span_t4) : Option (Int × (Int × (Bool × Unit))) := expand_Span_p4 n k0 r2 k3 (expand_Span_s5 n k0 r2 k3) z
theorem expand_Span_e4 (n : Nat) (k0 : St → Option (Int × (Int × (Bool × Unit)))) (r2 : St → Option (Int × (Int × (Bool × Unit)))) (k3 : St → Option (Int × (Int × (Bool × Unit)))) (rc : Code → An → St → (Ex → St → Option (Int × (Int × (Bool × Unit)))) → Option (Int × (Int × (Bool × Unit)))) (z : expand_Span_t4) : codeR rc Try.prog expand_Span_sp n (cr (cr (cr (cl (cl (cr (cr (cl (cl (cr (cl (cr (bodyOf Try.f37))))))))))))) expand_Span_an.right.left.right.left.left.right.right.left.left.right.right.right (expand_Span_m4 z) (kBlk 1 (kSeq k3 expand_Span_an.right.left.right.left.left.right.right (kSeq r2 expand_Span_an.right.left.right.left (kBlk 0 (kSeq k0 expand_Span_an.right (kFin Try.prog expand_Span_rs Try.f37)))))) = expand_Span_p4 n (fun y => k0 (expand_Span_m0 y)) (fun y => r2 (expand_Span_m2 y)) (fun y => k3 (expand_Span_m3 y)) (fun y => rc (cr (cr (cr (cr (cl (cl (cr (cr (cl (cl (cr (cl (cr (bodyOf Try.f37)))))))))))))) expand_Span_an.right.left.right.left.left.right.right.left.left.right.right.right.right (expand_Span_m5 y) (kBlk 1 (kSeq k3 expand_Span_an.right.left.right.left.left.right.right (kSeq r2 expand_Span_an.right.left.right.left (kBlk 0 (kSeq k0 expand_Span_an.right (kFin Try.prog expand_Span_rs Try.f37))))))) z := by kernel_rfl
theorem expand_Span_q4 (n : Nat) (k0 : St → Option (Int × (Int × (Bool × Unit)))) (r2 : St → Option (Int × (Int × (Bool × Unit)))) (k3 : St → Option (Int × (Int × (Bool × Unit)))) (z : expand_Span_t4) : codeK Try.prog expand_Span_sp n (cr (cr (cr (cl (cl (cr (cr (cl (cl (cr (cl (cr (bodyOf Try.f37))))))))))))) expand_Span_an.right.left.right.left.left.right.right.left.left.right.right.right (expand_Span_m4 z) (kBlk 1 (kSeq k3 expand_Span_an.right.left.right.left.left.right.right (kSeq r2 expand_Span_an.right.left.right.left (kBlk 0 (kSeq k0 expand_Span_an.right (kFin Try.prog expand_Span_rs Try.f37)))))) = expand_Span_s4 n (fun y => k0 (expand_Span_m0 y)) (fun y => r2 (expand_Span_m2 y)) (fun y => k3 (expand_Span_m3 y)) z := by
  have h5 : (fun y => codeK Try.prog expand_Span_sp n (cr (cr (cr (cr (cl (cl (cr (cr (cl (cl (cr (cl (cr (bodyOf Try.f37)))))))))))))) expand_Span_an.right.left.right.left.left.right.right.left.left.right.right.right.right (expand_Span_m5 y) (kBlk 1 (kSeq k3 expand_Span_an.right.left.right.left.left.right.right (kSeq r2 expand_Span_an.right.left.right.left (kBlk 0 (kSeq k0 expand_Span_an.right (kFin Try.prog expand_Span_rs Try.f37))))))) = (expand_Span_s5 n (fun y => k0 (expand_Span_m0 y)) (fun y => r2 (expand_Span_m2 y)) (fun y => k3 (expand_Span_m3 y))) := funext fun y => by
    have := expand_Span_q5 n k0 r2 k3 y
    exact this
  rw [codeK_R, expand_Span_e4]
  rw [h5]
  rfl
def expand_Span_p2 (_n : Nat) (k0 : expand_Span_t0 → Option (Int × (Int × (Bool × Unit)))) (_r2 : expand_Span_t2 → Option (Int × (Int × (Bool × Unit)))) (k3 : expand_Span_t3 → Option (Int × (Int × (Bool × Unit)))) (k4 : expand_Span_t4 → Option (Int × (Int × (Bool × Unit)))) (z : expand_Span_t2) : Option (Int × (Int × (Bool × Unit))) :=
  bif (decide (z.2.2.2.2.2 < z.2.2.2.2.1)) then
    bif decide (0 ≤ z.2.2.2.2.2) then
      ((z.2.2.2.1[Int.toNat z.2.2.2.2.2]?)).bind fun e1 =>
      bif (e1.2.2.1 == 10000) then
        k4 (z.1, z.2.1, true, z.2.2.2.2.2, e1.2.1, z.2.2.2.1, z.2.2.2.2.1, z.2.2.2.2.2, e1)
      else
        k4 (z.1, z.2.1, z.2.2.1, z.2.2.2.2.2, e1.2.2.1, z.2.2.2.1, z.2.2.2.2.1, z.2.2.2.2.2, e1)
    else none
  else
    k0 (z.1, z.2.1, z.2.2.1)
def expand_Span_s2 (n : Nat) (k0 : expand_Span_t0 → Option (Int × (Int × (Bool × Unit)))) (r2 : expand_Span_t2 → Option (Int × (Int × (Bool × Unit)))) (z : expand_Span_t2) : Option (Int × (Int × (Bool × Unit))) := expand_Span_p2 n k0 r2 (expand_Span_s3 n k0 r2) (expand_Span_s4 n k0 r2 (expand_Span_s3 n k0 r2)) z
theorem expand_Span_e2 (n : Nat) (k0 : St → Option (Int × (Int × (Bool × Unit)))) (r2 : St → Option (Int × (Int × (Bool × Unit)))) (rc : Code → An → St → (Ex → St → Option (Int × (Int × (Bool × Unit)))) → Option (Int × (Int × (Bool × Unit)))) (z : expand_Span_t2) : codeR rc Try.prog expand_Span_sp n (cl (cl (cr (cl (cr (bodyOf Try.f37)))))) expand_Span_an.right.left.right.left.left (expand_Span_m2 z) (kSeq r2 expand_Span_an.right.left.right.left (kBlk 0 (kSeq k0 expand_Span_an.right (kFin Try.prog expand_Span_rs Try.f37)))) = expand_Span_p2 n (fun y => k0 (expand_Span_m0 y)) (fun y => r2 (expand_Span_m2 y)) (fun y => rc (cr (cr (cr (cl (cl (cr (cl (cr (bodyOf Try.f37))))))))) expand_Span_an.right.left.right.left.left.right.right.right (expand_Span_m3 y) (kSeq r2 expand_Span_an.right.left.right.left (kBlk 0 (kSeq k0 expand_Span_an.right (kFin Try.prog expand_Span_rs Try.f37))))) (fun y => rc (cr (cr (cr (cl (cl (cr (cr (cl (cl (cr (cl (cr (bodyOf Try.f37))))))))))))) expand_Span_an.right.left.right.left.left.right.right.left.left.right.right.right (expand_Span_m4 y) (kBlk 1 (kSeq (fun st => rc (cr (cr (cr (cl (cl (cr (cl (cr (bodyOf Try.f37))))))))) expand_Span_an.right.left.right.left.left.right.right.right st (kSeq r2 expand_Span_an.right.left.right.left (kBlk 0 (kSeq k0 expand_Span_an.right (kFin Try.prog expand_Span_rs Try.f37))))) expand_Span_an.right.left.right.left.left.right.right (kSeq r2 expand_Span_an.right.left.right.left (kBlk 0 (kSeq k0 expand_Span_an.right (kFin Try.prog expand_Span_rs Try.f37))))))) z := by kernel_rfl
theorem expand_Span_q2 (n : Nat) (k0 : St → Option (Int × (Int × (Bool × Unit)))) (r2 : St → Option (Int × (Int × (Bool × Unit)))) (z : expand_Span_t2) : codeK Try.prog expand_Span_sp n (cl (cl (cr (cl (cr (bodyOf Try.f37)))))) expand_Span_an.right.left.right.left.left (expand_Span_m2 z) (kSeq r2 expand_Span_an.right.left.right.left (kBlk 0 (kSeq k0 expand_Span_an.right (kFin Try.prog expand_Span_rs Try.f37)))) = expand_Span_s2 n (fun y => k0 (expand_Span_m0 y)) (fun y => r2 (expand_Span_m2 y)) z := by
  have h3 : (fun y => codeK Try.prog expand_Span_sp n (cr (cr (cr (cl (cl (cr (cl (cr (bodyOf Try.f37))))))))) expand_Span_an.right.left.right.left.left.right.right.right (expand_Span_m3 y) (kSeq r2 expand_Span_an.right.left.right.left (kBlk 0 (kSeq k0 expand_Span_an.right (kFin Try.prog expand_Span_rs Try.f37))))) = (expand_Span_s3 n (fun y => k0 (expand_Span_m0 y)) (fun y => r2 (expand_Span_m2 y))) := funext fun y => by
    have := expand_Span_q3 n k0 r2 y
    exact this
  have h4 : (fun y => codeK Try.prog expand_Span_sp n (cr (cr (cr (cl (cl (cr (cr (cl (cl (cr (cl (cr (bodyOf Try.f37))))))))))))) expand_Span_an.right.left.right.left.left.right.right.left.left.right.right.right (expand_Span_m4 y) (kBlk 1 (kSeq (fun st => codeK Try.prog expand_Span_sp n (cr (cr (cr (cl (cl (cr (cl (cr (bodyOf Try.f37))))))))) expand_Span_an.right.left.right.left.left.right.right.right st (kSeq r2 expand_Span_an.right.left.right.left (kBlk 0 (kSeq k0 expand_Span_an.right (kFin Try.prog expand_Span_rs Try.f37))))) expand_Span_an.right.left.right.left.left.right.right (kSeq r2 expand_Span_an.right.left.right.left (kBlk 0 (kSeq k0 expand_Span_an.right (kFin Try.prog expand_Span_rs Try.f37))))))) = (expand_Span_s4 n (fun y => k0 (expand_Span_m0 y)) (fun y => r2 (expand_Span_m2 y)) (expand_Span_s3 n (fun y => k0 (expand_Span_m0 y)) (fun y => r2 (expand_Span_m2 y)))) := funext fun y => by
    have := expand_Span_q4 n k0 r2 (fun st => codeK Try.prog expand_Span_sp n (cr (cr (cr (cl (cl (cr (cl (cr (bodyOf Try.f37))))))))) expand_Span_an.right.left.right.left.left.right.right.right st (kSeq r2 expand_Span_an.right.left.right.left (kBlk 0 (kSeq k0 expand_Span_an.right (kFin Try.prog expand_Span_rs Try.f37))))) y
    rw [h3] at this; exact this
  rw [codeK_R, expand_Span_e2]
  rw [h3]
  rw [h4]
  rfl
def expand_Span_s1 (n : Nat) (k0 : expand_Span_t0 → Option (Int × (Int × (Bool × Unit)))) (z : expand_Span_t1) : Option (Int × (Int × (Bool × Unit))) :=
  rounds (fun r2 x' => expand_Span_s2 n k0 r2 x') n (z.1, z.2.1, z.2.2.1, z.2.2.2.1, z.2.2.2.2.1, z.2.2.2.2.2)
theorem expand_Span_q1 (n : Nat) (k0 : St → Option (Int × (Int × (Bool × Unit)))) (z : expand_Span_t1) : codeK Try.prog expand_Span_sp n (cr (cl (cr (bodyOf Try.f37)))) expand_Span_an.right.left.right (expand_Span_m1 z) (kSeq k0 expand_Span_an.right (kFin Try.prog expand_Span_rs Try.f37)) = expand_Span_s1 n (fun y => k0 (expand_Span_m0 y)) z :=
  Eq.trans (b := rounds (fun r2 st => codeK Try.prog expand_Span_sp n (cl (cl (cr (cl (cr (bodyOf Try.f37)))))) expand_Span_an.right.left.right.left.left st (kSeq r2 expand_Span_an.right.left.right.left (kBlk 0 (kSeq k0 expand_Span_an.right (kFin Try.prog expand_Span_rs Try.f37))))) n (expand_Span_m2 (z.1, z.2.1, z.2.2.1, z.2.2.2.1, z.2.2.2.2.1, z.2.2.2.2.2))) (by kernel_rfl) (rounds_mk expand_Span_m2 (fun r2 x' => by
    have := (expand_Span_q2 n k0 r2 x')
    exact this) n _)
def expand_Span_px (_n : Nat) (k0 : expand_Span_t0 → Option (Int × (Int × (Bool × Unit)))) (k1 : expand_Span_t1 → Option (Int × (Int × (Bool × Unit)))) (x : ((List D_api_Rule) × Unit)) : Option (Int × (Int × (Bool × Unit))) :=
  k1 ((0 : Int), (0 : Int), false, x.1, (List.length x.1 : Int), (0 : Int))
def expand_Span (n : Nat) (x : ((List D_api_Rule) × Unit)) : Option (Int × (Int × (Bool × Unit))) := expand_Span_px n (expand_Span_s0 n) (expand_Span_s1 n (expand_Span_s0 n)) x
theorem expand_Span_ex (n : Nat) (rc : Code → An → St → (Ex → St → Option (Int × (Int × (Bool × Unit)))) → Option (Int × (Int × (Bool × Unit)))) (x : ((List D_api_Rule) × Unit)) : codeR rc Try.prog expand_Span_sp n (bodyOf Try.f37) expand_Span_an (start expand_Span_ps x (Func.ntmps Try.f37)) (kFin Try.prog expand_Span_rs Try.f37) = expand_Span_px n (fun y => rc (cr (cr (bodyOf Try.f37))) expand_Span_an.right.right (expand_Span_m0 y) (kFin Try.prog expand_Span_rs Try.f37)) (fun y => rc (cr (cl (cr (bodyOf Try.f37)))) expand_Span_an.right.left.right (expand_Span_m1 y) (kSeq (fun st => rc (cr (cr (bodyOf Try.f37))) expand_Span_an.right.right st (kFin Try.prog expand_Span_rs Try.f37)) expand_Span_an.right (kFin Try.prog expand_Span_rs Try.f37))) x := by kernel_rfl
theorem expand_Span_qx (n : Nat) (x : ((List D_api_Rule) × Unit)) : codeK Try.prog expand_Span_sp n (bodyOf Try.f37) expand_Span_an (start expand_Span_ps x (Func.ntmps Try.f37)) (kFin Try.prog expand_Span_rs Try.f37) = expand_Span n x := by
  have h0 : (fun y => codeK Try.prog expand_Span_sp n (cr (cr (bodyOf Try.f37))) expand_Span_an.right.right (expand_Span_m0 y) (kFin Try.prog expand_Span_rs Try.f37)) = (expand_Span_s0 n) := funext fun y => by
    have := expand_Span_q0 n  y
    exact this
  have h1 : (fun y => codeK Try.prog expand_Span_sp n (cr (cl (cr (bodyOf Try.f37)))) expand_Span_an.right.left.right (expand_Span_m1 y) (kSeq (fun st => codeK Try.prog expand_Span_sp n (cr (cr (bodyOf Try.f37))) expand_Span_an.right.right st (kFin Try.prog expand_Span_rs Try.f37)) expand_Span_an.right (kFin Try.prog expand_Span_rs Try.f37))) = (expand_Span_s1 n (expand_Span_s0 n)) := funext fun y => by
    have := expand_Span_q1 n (fun st => codeK Try.prog expand_Span_sp n (cr (cr (bodyOf Try.f37))) expand_Span_an.right.right st (kFin Try.prog expand_Span_rs Try.f37)) y
    rw [h0] at this; exact this
  rw [codeK_R, expand_Span_ex]
  rw [h0]
  rw [h1]
  rfl
def expand_Span_spec : Sp := ⟨expand_Span_ps, expand_Span_rs, expand_Span⟩
theorem expand_Span_ok : SoundX Try.prog CX 37 (.f expand_Span_spec) := sound_of look_nil Try.func37 (by kernel_rfl) rfl expand_Span_an expand_Span_spec rfl rfl expand_Span_qx

/-! ### (noonmark/expand.lasting).ahead -/
abbrev expand_lasting_ahead_ps : Ty := (.pair T_api_Rule T_api_At)
abbrev expand_lasting_ahead_rs : Ty := (.pair T_expand_Fire (.pair .bool .unit))
def expand_lasting_ahead_sp : Specs := look [(52, .f expand_lasting_first_spec), (53, .f expand_lasting_last_spec), (54, .f expand_lasting_fire_spec)]
def expand_lasting_ahead_an : An := (.s .o (.s .o (.s .o (.k [] [6] 2 (.k [] [1,3,6,8,9,10] 2 .o (.b (.l [] [1,3,6,8,9,10] 2 .o))) .o))))
abbrev expand_lasting_ahead_t0 := D_api_Rule × D_expand_Fire
def expand_lasting_ahead_m0 (z : expand_lasting_ahead_t0) : St := ⟨[.junk, .junk, .junk, .junk, .junk, .junk, .v ⟨(.ptr 1 0 T_expand_Fire), ()⟩, .junk, .junk, .junk, .junk, .junk, .junk, .junk, .junk, .junk, .junk, .junk, .junk, .junk, .junk, .junk, .junk, .junk, .junk, .junk, .junk, .junk, .junk, .junk, .junk, .junk, .junk, .junk, .junk, .junk, .junk, .junk, .junk, .junk, .junk, .junk, .junk], [some (.one ⟨T_api_Rule, z.1⟩), some (.one ⟨T_expand_Fire, z.2⟩)]⟩
abbrev expand_lasting_ahead_t1 := Int × (D_api_Rule × Unit) × Int × Int × D_api_Rule × D_expand_Fire
def expand_lasting_ahead_m1 (z : expand_lasting_ahead_t1) : St := ⟨[.junk, .v ⟨(.int .i64), z.1⟩, .junk, .v ⟨(.ptr 0 0 T_api_Rule), ()⟩, .junk, .junk, .v ⟨(.ptr 1 0 T_expand_Fire), ()⟩, .junk, .v ⟨(.fn 54 1 (.pair T_api_Rule .unit)), z.2.1⟩, .v ⟨(.int .i64), z.2.2.1⟩, .v ⟨(.int .i64), z.2.2.2.1⟩, .junk, .junk, .junk, .junk, .junk, .junk, .junk, .junk, .junk, .junk, .junk, .junk, .junk, .junk, .junk, .junk, .junk, .junk, .junk, .junk, .junk, .junk, .junk, .junk, .junk, .junk, .junk, .junk, .junk, .junk, .junk, .junk], [some (.one ⟨T_api_Rule, z.2.2.2.2.1⟩), some (.one ⟨T_expand_Fire, z.2.2.2.2.2⟩)]⟩
abbrev expand_lasting_ahead_t2 := Int × (D_api_Rule × Unit) × Int × Int × D_api_Rule × D_expand_Fire
def expand_lasting_ahead_m2 (z : expand_lasting_ahead_t2) : St := ⟨[.junk, .v ⟨(.int .i64), z.1⟩, .junk, .v ⟨(.ptr 0 0 T_api_Rule), ()⟩, .junk, .junk, .v ⟨(.ptr 1 0 T_expand_Fire), ()⟩, .junk, .v ⟨(.fn 54 1 (.pair T_api_Rule .unit)), z.2.1⟩, .v ⟨(.int .i64), z.2.2.1⟩, .v ⟨(.int .i64), z.2.2.2.1⟩, .junk, .junk, .junk, .junk, .junk, .junk, .junk, .junk, .junk, .junk, .junk, .junk, .junk, .junk, .junk, .junk, .junk, .junk, .junk, .junk, .junk, .junk, .junk, .junk, .junk, .junk, .junk, .junk, .junk, .junk, .junk, .junk], [some (.one ⟨T_api_Rule, z.2.2.2.2.1⟩), some (.one ⟨T_expand_Fire, z.2.2.2.2.2⟩)]⟩
def expand_lasting_ahead_p0 (_n : Nat) (_z : expand_lasting_ahead_t0) : Option (D_expand_Fire × (Bool × Unit)) :=
  some (((0 : Int), ((0 : Int), ((0 : Int), ((0 : Int), ())))), (false, ()))
def expand_lasting_ahead_s0 (n : Nat) (z : expand_lasting_ahead_t0) : Option (D_expand_Fire × (Bool × Unit)) := expand_lasting_ahead_p0 n z
theorem expand_lasting_ahead_e0 (n : Nat) (rc : Code → An → St → (Ex → St → Option (D_expand_Fire × (Bool × Unit))) → Option (D_expand_Fire × (Bool × Unit))) (z : expand_lasting_ahead_t0) : codeR rc Try.prog expand_lasting_ahead_sp n (cr (cr (cr (cr (bodyOf Try.f73))))) expand_lasting_ahead_an.right.right.right.right (expand_lasting_ahead_m0 z) (kFin Try.prog expand_lasting_ahead_rs Try.f73) = expand_lasting_ahead_p0 n z := by kernel_rfl
theorem expand_lasting_ahead_q0 (n : Nat) (z : expand_lasting_ahead_t0) : codeK Try.prog expand_lasting_ahead_sp n (cr (cr (cr (cr (bodyOf Try.f73))))) expand_lasting_ahead_an.right.right.right.right (expand_lasting_ahead_m0 z) (kFin Try.prog expand_lasting_ahead_rs Try.f73) = expand_lasting_ahead_s0 n z := by
  rw [codeK_R, expand_lasting_ahead_e0]
  rfl
def expand_lasting_ahead_p2 (n : Nat) (k0 : expand_lasting_ahead_t0 → Option (D_expand_Fire × (Bool × Unit))) (r2 : expand_lasting_ahead_t2 → Option (D_expand_Fire × (Bool × Unit))) (z : expand_lasting_ahead_t2) : Option (D_expand_Fire × (Bool × Unit)) :=
  ((expand_lasting_first n (z.2.2.2.2.1, ()))).bind fun v4 =>
  bif (decide (z.2.2.2.1 ≥ v4.1)) then
    bif (decide ((w64 (z.2.2.1 - z.2.2.2.1)) ≤ 8)) then
      ((expand_lasting_fire n (z.2.1.1, (z.1, (z.2.2.2.1, ()))))).bind fun v6 =>
      bif v6.2.1 then
        some (v6.1, (true, ()))
      else
        r2 (z.1, z.2.1, z.2.2.1, (w64 (z.2.2.2.1 - 1)), z.2.2.2.2.1, z.2.2.2.2.2)
    else
      k0 (z.2.2.2.2.1, z.2.2.2.2.2)
  else
    k0 (z.2.2.2.2.1, z.2.2.2.2.2)
def expand_lasting_ahead_s2 (n : Nat) (k0 : expand_lasting_ahead_t0 → Option (D_expand_Fire × (Bool × Unit))) (r2 : expand_lasting_ahead_t2 → Option (D_expand_Fire × (Bool × Unit))) (z : expand_lasting_ahead_t2) : Option (D_expand_Fire × (Bool × Unit)) := expand_lasting_ahead_p2 n k0 r2 z
theorem expand_lasting_ahead_e2 (n : Nat) (k0 : St → Option (D_expand_Fire × (Bool × Unit))) (r2 : St → Option (D_expand_Fire × (Bool × Unit))) (rc : Code → An → St → (Ex → St → Option (D_expand_Fire × (Bool × Unit))) → Option (D_expand_Fire × (Bool × Unit))) (z : expand_lasting_ahead_t2) : codeR rc Try.prog expand_lasting_ahead_sp n (cl (cl (cr (cl (cr (cr (cr (bodyOf Try.f73)))))))) expand_lasting_ahead_an.right.right.right.left.right.left.left (expand_lasting_ahead_m2 z) (kSeq r2 expand_lasting_ahead_an.right.right.right.left.right.left (kBlk 0 (kSeq k0 expand_lasting_ahead_an.right.right.right (kFin Try.prog expand_lasting_ahead_rs Try.f73)))) = expand_lasting_ahead_p2 n (fun y => k0 (expand_lasting_ahead_m0 y)) (fun y => r2 (expand_lasting_ahead_m2 y)) z := by kernel_rfl
theorem expand_lasting_ahead_q2 (n : Nat) (k0 : St → Option (D_expand_Fire × (Bool × Unit))) (r2 : St → Option (D_expand_Fire × (Bool × Unit))) (z : expand_lasting_ahead_t2) : codeK Try.prog expand_lasting_ahead_sp n (cl (cl (cr (cl (cr (cr (cr (bodyOf Try.f73)))))))) expand_lasting_ahead_an.right.right.right.left.right.left.left (expand_lasting_ahead_m2 z) (kSeq r2 expand_lasting_ahead_an.right.right.right.left.right.left (kBlk 0 (kSeq k0 expand_lasting_ahead_an.right.right.right (kFin Try.prog expand_lasting_ahead_rs Try.f73)))) = expand_lasting_ahead_s2 n (fun y => k0 (expand_lasting_ahead_m0 y)) (fun y => r2 (expand_lasting_ahead_m2 y)) z := by
  rw [codeK_R, expand_lasting_ahead_e2]
  rfl
def expand_lasting_ahead_s1 (n : Nat) (k0 : expand_lasting_ahead_t0 → Option (D_expand_Fire × (Bool × Unit))) (z : expand_lasting_ahead_t1) : Option (D_expand_Fire × (Bool × Unit)) :=
  rounds (fun r2 x' => expand_lasting_ahead_s2 n k0 r2 x') n (z.1, z.2.1, z.2.2.1, z.2.2.2.1, z.2.2.2.2.1, z.2.2.2.2.2)
theorem expand_lasting_ahead_q1 (n : Nat) (k0 : St → Option (D_expand_Fire × (Bool × Unit))) (z : expand_lasting_ahead_t1) : codeK Try.prog expand_lasting_ahead_sp n (cr (cl (cr (cr (cr (bodyOf Try.f73)))))) expand_lasting_ahead_an.right.right.right.left.right (expand_lasting_ahead_m1 z) (kSeq k0 expand_lasting_ahead_an.right.right.right (kFin Try.prog expand_lasting_ahead_rs Try.f73)) = expand_lasting_ahead_s1 n (fun y => k0 (expand_lasting_ahead_m0 y)) z :=
  Eq.trans (b := rounds (fun r2 st => codeK Try.prog expand_lasting_ahead_sp n (cl (cl (cr (cl (cr (cr (cr (bodyOf Try.f73)))))))) expand_lasting_ahead_an.right.right.right.left.right.left.left st (kSeq r2 expand_lasting_ahead_an.right.right.right.left.right.left (kBlk 0 (kSeq k0 expand_lasting_ahead_an.right.right.right (kFin Try.prog expand_lasting_ahead_rs Try.f73))))) n (expand_lasting_ahead_m2 (z.1, z.2.1, z.2.2.1, z.2.2.2.1, z.2.2.2.2.1, z.2.2.2.2.2))) (by kernel_rfl) (rounds_mk expand_lasting_ahead_m2 (fun r2 x' => by
    have := (expand_lasting_ahead_q2 n k0 r2 x')
    exact this) n _)
def expand_lasting_ahead_px (n : Nat) (k0 : expand_lasting_ahead_t0 → Option (D_expand_Fire × (Bool × Unit))) (k1 : expand_lasting_ahead_t1 → Option (D_expand_Fire × (Bool × Unit))) (x : (D_api_Rule × D_api_At)) : Option (D_expand_Fire × (Bool × Unit)) :=
  ((expand_lasting_last n (x.1, ()))).bind fun v2 =>
  let t3 := imin (w64 (x.2.2.1 - 1)) v2.1
  k1 (x.2.1, (x.1, ()), t3, t3, x.1, ((0 : Int), ((0 : Int), ((0 : Int), ((0 : Int), ())))))
def expand_lasting_ahead (n : Nat) (x : (D_api_Rule × D_api_At)) : Option (D_expand_Fire × (Bool × Unit)) := expand_lasting_ahead_px n (expand_lasting_ahead_s0 n) (expand_lasting_ahead_s1 n (expand_lasting_ahead_s0 n)) x
theorem expand_lasting_ahead_ex (n : Nat) (rc : Code → An → St → (Ex → St → Option (D_expand_Fire × (Bool × Unit))) → Option (D_expand_Fire × (Bool × Unit))) (x : (D_api_Rule × D_api_At)) : codeR rc Try.prog expand_lasting_ahead_sp n (bodyOf Try.f73) expand_lasting_ahead_an (start expand_lasting_ahead_ps x (Func.ntmps Try.f73)) (kFin Try.prog expand_lasting_ahead_rs Try.f73) = expand_lasting_ahead_px n (fun y => rc (cr (cr (cr (cr (bodyOf Try.f73))))) expand_lasting_ahead_an.right.right.right.right (expand_lasting_ahead_m0 y) (kFin Try.prog expand_lasting_ahead_rs Try.f73)) (fun y => rc (cr (cl (cr (cr (cr (bodyOf Try.f73)))))) expand_lasting_ahead_an.right.right.right.left.right (expand_lasting_ahead_m1 y) (kSeq (fun st => rc (cr (cr (cr (cr (bodyOf Try.f73))))) expand_lasting_ahead_an.right.right.right.right st (kFin Try.prog expand_lasting_ahead_rs Try.f73)) expand_lasting_ahead_an.right.right.right (kFin Try.prog expand_lasting_ahead_rs Try.f73))) x := by kernel_rfl
theorem expand_lasting_ahead_qx (n : Nat) (x : (D_api_Rule × D_api_At)) : codeK Try.prog expand_lasting_ahead_sp n (bodyOf Try.f73) expand_lasting_ahead_an (start expand_lasting_ahead_ps x (Func.ntmps Try.f73)) (kFin Try.prog expand_lasting_ahead_rs Try.f73) = expand_lasting_ahead n x := by
  have h0 : (fun y => codeK Try.prog expand_lasting_ahead_sp n (cr (cr (cr (cr (bodyOf Try.f73))))) expand_lasting_ahead_an.right.right.right.right (expand_lasting_ahead_m0 y) (kFin Try.prog expand_lasting_ahead_rs Try.f73)) = (expand_lasting_ahead_s0 n) := funext fun y => by
    have := expand_lasting_ahead_q0 n  y
    exact this
  have h1 : (fun y => codeK Try.prog expand_lasting_ahead_sp n (cr (cl (cr (cr (cr (bodyOf Try.f73)))))) expand_lasting_ahead_an.right.right.right.left.right (expand_lasting_ahead_m1 y) (kSeq (fun st => codeK Try.prog expand_lasting_ahead_sp n (cr (cr (cr (cr (bodyOf Try.f73))))) expand_lasting_ahead_an.right.right.right.right st (kFin Try.prog expand_lasting_ahead_rs Try.f73)) expand_lasting_ahead_an.right.right.right (kFin Try.prog expand_lasting_ahead_rs Try.f73))) = (expand_lasting_ahead_s1 n (expand_lasting_ahead_s0 n)) := funext fun y => by
    have := expand_lasting_ahead_q1 n (fun st => codeK Try.prog expand_lasting_ahead_sp n (cr (cr (cr (cr (bodyOf Try.f73))))) expand_lasting_ahead_an.right.right.right.right st (kFin Try.prog expand_lasting_ahead_rs Try.f73)) y
    rw [h0] at this; exact this
  rw [codeK_R, expand_lasting_ahead_ex]
  rw [h0]
  rw [h1]
  rfl
def expand_lasting_ahead_spec : Sp := ⟨expand_lasting_ahead_ps, expand_lasting_ahead_rs, expand_lasting_ahead⟩
theorem expand_lasting_ahead_ok : SoundX Try.prog CX 73 (.f expand_lasting_ahead_spec) := sound_of (look_cons expand_lasting_first_ok (look_cons expand_lasting_last_ok (look_cons expand_lasting_fire_ok look_nil))) Try.func73 (by kernel_rfl) rfl expand_lasting_ahead_an expand_lasting_ahead_spec rfl rfl expand_lasting_ahead_qx

/-! ### noonmark/expand.saved -/
abbrev expand_saved_ps : Ty := (.pair (.list T_api_Rule) (.pair (.int .i64) .unit))
abbrev expand_saved_rs : Ty := (.pair (.int .i64) .unit)
def expand_saved_sp : Specs := look [(55, .f expand_order_spec), (73, .f expand_lasting_ahead_spec)]
def expand_saved_an : An := (.s .o (.s .o (.s .o (.k [] [6] 0 (.k [] [1,5,6,7,12,13,14] 1 .o (.b (.l [] [1,5,6,7,12,13,14] 1 (.s .o (.s .o (.k [] [1,5,6,7,12,13,14] 1 (.b (.s .o (.s .o (.k [] [1,5,6,7,9,10,12,13,14,36] 3 .o .o)))) .o)))))) .o))))
abbrev expand_saved_t0 := Int
def expand_saved_m0 (z : expand_saved_t0) : St := ⟨[.junk, .junk, .junk, .junk, .junk, .junk, .v ⟨(.int .i64), z⟩, .junk, .junk, .junk, .junk, .junk, .junk, .junk, .junk, .junk, .junk, .junk, .junk, .junk, .junk, .junk, .junk, .junk, .junk, .junk, .junk, .junk, .junk, .junk, .junk, .junk, .junk, .junk, .junk, .junk, .junk, .junk, .junk, .junk, .junk, .junk], []⟩
abbrev expand_saved_t1 := Int × Int × Bool × (List D_api_Rule) × Int × Int × D_expand_Fire
def expand_saved_m1 (z : expand_saved_t1) : St := ⟨[.junk, .v ⟨(.int .i64), z.1⟩, .junk, .junk, .junk, .v ⟨(.ptr 0 0 T_expand_Fire), ()⟩, .v ⟨(.int .i64), z.2.1⟩, .v ⟨.bool, z.2.2.1⟩, .junk, .junk, .junk, .junk, .v ⟨(.list T_api_Rule), z.2.2.2.1⟩, .v ⟨(.int .i64), z.2.2.2.2.1⟩, .v ⟨(.int .i64), z.2.2.2.2.2.1⟩, .junk, .junk, .junk, .junk, .junk, .junk, .junk, .junk, .junk, .junk, .junk, .junk, .junk, .junk, .junk, .junk, .junk, .junk, .junk, .junk, .junk, .junk, .junk, .junk, .junk, .junk, .junk], [some (.one ⟨T_expand_Fire, z.2.2.2.2.2.2⟩)]⟩
abbrev expand_saved_t2 := Int × Int × Bool × (List D_api_Rule) × Int × Int × D_expand_Fire
def expand_saved_m2 (z : expand_saved_t2) : St := ⟨[.junk, .v ⟨(.int .i64), z.1⟩, .junk, .junk, .junk, .v ⟨(.ptr 0 0 T_expand_Fire), ()⟩, .v ⟨(.int .i64), z.2.1⟩, .v ⟨.bool, z.2.2.1⟩, .junk, .junk, .junk, .junk, .v ⟨(.list T_api_Rule), z.2.2.2.1⟩, .v ⟨(.int .i64), z.2.2.2.2.1⟩, .v ⟨(.int .i64), z.2.2.2.2.2.1⟩, .junk, .junk, .junk, .junk, .junk, .junk, .junk, .junk, .junk, .junk, .junk, .junk, .junk, .junk, .junk, .junk, .junk, .junk, .junk, .junk, .junk, .junk, .junk, .junk, .junk, .junk, .junk], [some (.one ⟨T_expand_Fire, z.2.2.2.2.2.2⟩)]⟩
abbrev expand_saved_t3 := Int × Int × Bool × (List D_api_Rule) × Int × Int × D_expand_Fire
def expand_saved_m3 (z : expand_saved_t3) : St := ⟨[.junk, .v ⟨(.int .i64), z.1⟩, .junk, .junk, .junk, .v ⟨(.ptr 0 0 T_expand_Fire), ()⟩, .v ⟨(.int .i64), z.2.1⟩, .v ⟨.bool, z.2.2.1⟩, .junk, .junk, .junk, .junk, .v ⟨(.list T_api_Rule), z.2.2.2.1⟩, .v ⟨(.int .i64), z.2.2.2.2.1⟩, .v ⟨(.int .i64), z.2.2.2.2.2.1⟩, .junk, .junk, .junk, .junk, .junk, .junk, .junk, .junk, .junk, .junk, .junk, .junk, .junk, .junk, .junk, .junk, .junk, .junk, .junk, .junk, .junk, .junk, .junk, .junk, .junk, .junk, .junk], [some (.one ⟨T_expand_Fire, z.2.2.2.2.2.2⟩)]⟩
abbrev expand_saved_t4 := Int × Int × Bool × (List D_api_Rule) × Int × Int × Bool × D_expand_Fire × D_api_Rule × D_expand_Fire
def expand_saved_m4 (z : expand_saved_t4) : St := ⟨[.junk, .v ⟨(.int .i64), z.1⟩, .junk, .junk, .junk, .v ⟨(.ptr 0 0 T_expand_Fire), ()⟩, .v ⟨(.int .i64), z.2.1⟩, .v ⟨.bool, z.2.2.1⟩, .junk, .v ⟨(.ptr 1 0 T_api_Rule), ()⟩, .v ⟨(.ptr 2 0 T_expand_Fire), ()⟩, .junk, .v ⟨(.list T_api_Rule), z.2.2.2.1⟩, .v ⟨(.int .i64), z.2.2.2.2.1⟩, .v ⟨(.int .i64), z.2.2.2.2.2.1⟩, .junk, .junk, .junk, .junk, .junk, .junk, .junk, .junk, .junk, .junk, .junk, .junk, .junk, .junk, .junk, .junk, .junk, .junk, .junk, .junk, .junk, .v ⟨.bool, z.2.2.2.2.2.2.1⟩, .junk, .junk, .junk, .junk, .junk], [some (.one ⟨T_expand_Fire, z.2.2.2.2.2.2.2.1⟩), some (.one ⟨T_api_Rule, z.2.2.2.2.2.2.2.2.1⟩), some (.one ⟨T_expand_Fire, z.2.2.2.2.2.2.2.2.2⟩)]⟩
def expand_saved_p0 (_n : Nat) (z : expand_saved_t0) : Option (Int × Unit) :=
  some (z, ())
def expand_saved_s0 (n : Nat) (z : expand_saved_t0) : Option (Int × Unit) := expand_saved_p0 n z
theorem expand_saved_e0 (n : Nat) (rc : Code → An → St → (Ex → St → Option (Int × Unit)) → Option (Int × Unit)) (z : expand_saved_t0) : codeR rc Try.prog expand_saved_sp n (cr (cr (cr (cr (bodyOf Try.f57))))) expand_saved_an.right.right.right.right (expand_saved_m0 z) (kFin Try.prog expand_saved_rs Try.f57) = expand_saved_p0 n z := by kernel_rfl
theorem expand_saved_q0 (n : Nat) (z : expand_saved_t0) : codeK Try.prog expand_saved_sp n (cr (cr (cr (cr (bodyOf Try.f57))))) expand_saved_an.right.right.right.right (expand_saved_m0 z) (kFin Try.prog expand_saved_rs Try.f57) = expand_saved_s0 n z := by
  rw [codeK_R, expand_saved_e0]
  rfl
def expand_saved_p3 (_n : Nat) (_k0 : expand_saved_t0 → Option (Int × Unit)) (r2 : expand_saved_t2 → Option (Int × Unit)) (z : expand_saved_t3) : Option (Int × Unit) :=
  r2 (z.1, z.2.1, z.2.2.1, z.2.2.2.1, z.2.2.2.2.1, (w64 (z.2.2.2.2.2.1 + 1)), z.2.2.2.2.2.2)
def expand_saved_s3 (n : Nat) (k0 : expand_saved_t0 → Option (Int × Unit)) (r2 : expand_saved_t2 → Option (Int × Unit)) (z : expand_saved_t3) : Option (Int × Unit) := expand_saved_p3 n k0 r2 z
theorem expand_saved_e3 (n : Nat) (k0 : St → Option (Int × Unit)) (r2 : St → Option (Int × Unit)) (rc : Code → An → St → (Ex → St → Option (Int × Unit)) → Option (Int × Unit)) (z : expand_saved_t3) : codeR rc Try.prog expand_saved_sp n (cr (cr (cr (cl (cl (cr (cl (cr (cr (cr (bodyOf Try.f57))))))))))) expand_saved_an.right.right.right.left.right.left.left.right.right.right (expand_saved_m3 z) (kSeq r2 expand_saved_an.right.right.right.left.right.left (kBlk 0 (kSeq k0 expand_saved_an.right.right.right (kFin Try.prog expand_saved_rs Try.f57)))) = expand_saved_p3 n (fun y => k0 (expand_saved_m0 y)) (fun y => r2 (expand_saved_m2 y)) z := by kernel_rfl
theorem expand_saved_q3 (n : Nat) (k0 : St → Option (Int × Unit)) (r2 : St → Option (Int × Unit)) (z : expand_saved_t3) : codeK Try.prog expand_saved_sp n (cr (cr (cr (cl (cl (cr (cl (cr (cr (cr (bodyOf Try.f57))))))))))) expand_saved_an.right.right.right.left.right.left.left.right.right.right (expand_saved_m3 z) (kSeq r2 expand_saved_an.right.right.right.left.right.left (kBlk 0 (kSeq k0 expand_saved_an.right.right.right (kFin Try.prog expand_saved_rs Try.f57)))) = expand_saved_s3 n (fun y => k0 (expand_saved_m0 y)) (fun y => r2 (expand_saved_m2 y)) z := by
  rw [codeK_R, expand_saved_e3]
  rfl
def expand_saved_p4 (_n : Nat) (_k0 : expand_saved_t0 → Option (Int × Unit)) (_r2 : expand_saved_t2 → Option (Int × Unit)) (k3 : expand_saved_t3 → Option (Int × Unit)) (z : expand_saved_t4) : Option (Int × Unit) :=
  bif z.2.2.2.2.2.2.1 then
    k3 (z.1, z.2.2.2.2.2.2.2.2.1.2.2.2.2.2.2.1, true, z.2.2.2.1, z.2.2.2.2.1, z.2.2.2.2.2.1, z.2.2.2.2.2.2.2.2.2)
  else
    k3 (z.1, z.2.1, z.2.2.1, z.2.2.2.1, z.2.2.2.2.1, z.2.2.2.2.2.1, z.2.2.2.2.2.2.2.1)
def expand_saved_s4 (n : Nat) (k0 : expand_saved_t0 → Option (Int × Unit)) (r2 : expand_saved_t2 → Option (Int × Unit)) (k3 : expand_saved_t3 → Option (Int × Unit)) (z : expand_saved_t4) : Option (Int × Unit) := expand_saved_p4 n k0 r2 k3 z
theorem expand_saved_e4 (n : Nat) (k0 : St → Option (Int × Unit)) (r2 : St → Option (Int × Unit)) (k3 : St → Option (Int × Unit)) (rc : Code → An → St → (Ex → St → Option (Int × Unit)) → Option (Int × Unit)) (z : expand_saved_t4) : codeR rc Try.prog expand_saved_sp n (cr (cr (cr (cl (cl (cr (cr (cl (cl (cr (cl (cr (cr (cr (bodyOf Try.f57))))))))))))))) expand_saved_an.right.right.right.left.right.left.left.right.right.left.left.right.right.right (expand_saved_m4 z) (kBlk 1 (kSeq k3 expand_saved_an.right.right.right.left.right.left.left.right.right (kSeq r2 expand_saved_an.right.right.right.left.right.left (kBlk 0 (kSeq k0 expand_saved_an.right.right.right (kFin Try.prog expand_saved_rs Try.f57)))))) = expand_saved_p4 n (fun y => k0 (expand_saved_m0 y)) (fun y => r2 (expand_saved_m2 y)) (fun y => k3 (expand_saved_m3 y)) z := by kernel_rfl
theorem expand_saved_q4 (n : Nat) (k0 : St → Option (Int × Unit)) (r2 : St → Option (Int × Unit)) (k3 : St → Option (Int × Unit)) (z : expand_saved_t4) : codeK Try.prog expand_saved_sp n (cr (cr (cr (cl (cl (cr (cr (cl (cl (cr (cl (cr (cr (cr (bodyOf Try.f57))))))))))))))) expand_saved_an.right.right.right.left.right.left.left.right.right.left.left.right.right.right (expand_saved_m4 z) (kBlk 1 (kSeq k3 expand_saved_an.right.right.right.left.right.left.left.right.right (kSeq r2 expand_saved_an.right.right.right.left.right.left (kBlk 0 (kSeq k0 expand_saved_an.right.right.right (kFin Try.prog expand_saved_rs Try.f57)))))) = expand_saved_s4 n (fun y => k0 (expand_saved_m0 y)) (fun y => r2 (expand_saved_m2 y)) (fun y => k3 (expand_saved_m3 y)) z := by
  rw [codeK_R, expand_saved_e4]
  rfl
def expand_saved_p2 (n : Nat) (k0 : expand_saved_t0 → Option (Int × Unit)) (_r2 : expand_saved_t2 → Option (Int × Unit)) (k3 : expand_saved_t3 → Option (Int × Unit)) (k4 : expand_saved_t4 → Option (Int × Unit)) (z : expand_saved_t2) : Option (Int × Unit) :=
  bif (decide (z.2.2.2.2.2.1 < z.2.2.2.2.1)) then
    bif decide (0 ≤ z.2.2.2.2.2.1) then
      ((z.2.2.2.1[Int.toNat z.2.2.2.2.2.1]?)).bind fun e1 =>
      ((expand_lasting_ahead n (e1, (z.2.2.2.2.2.1, (z.1, ()))))).bind fun v2 =>
      bif v2.2.1 then
        bif (!z.2.2.1) then
          k4 (z.1, z.2.1, z.2.2.1, z.2.2.2.1, z.2.2.2.2.1, z.2.2.2.2.2.1, true, z.2.2.2.2.2.2, e1, v2.1)
        else
          ((expand_order n (z.2.2.2.2.2.2, (v2.1, ())))).bind fun v3 =>
          k4 (z.1, z.2.1, z.2.2.1, z.2.2.2.1, z.2.2.2.2.1, z.2.2.2.2.2.1, (decide (v3.1 < 0)), z.2.2.2.2.2.2, e1, v2.1)
      else
        k4 (z.1, z.2.1, z.2.2.1, z.2.2.2.1, z.2.2.2.2.1, z.2.2.2.2.2.1, false, z.2.2.2.2.2.2, e1, v2.1)
    else none
  else
    k0 z.2.1
def expand_saved_s2 (n : Nat) (k0 : expand_saved_t0 → Option (Int × Unit)) (r2 : expand_saved_t2 → Option (Int × Unit)) (z : expand_saved_t2) : Option (Int × Unit) := expand_saved_p2 n k0 r2 (expand_saved_s3 n k0 r2) (expand_saved_s4 n k0 r2 (expand_saved_s3 n k0 r2)) z
theorem expand_saved_e2 (n : Nat) (k0 : St → Option (Int × Unit)) (r2 : St → Option (Int × Unit)) (rc : Code → An → St → (Ex → St → Option (Int × Unit)) → Option (Int × Unit)) (z : expand_saved_t2) : codeR rc Try.prog expand_saved_sp n (cl (cl (cr (cl (cr (cr (cr (bodyOf Try.f57)))))))) expand_saved_an.right.right.right.left.right.left.left (expand_saved_m2 z) (kSeq r2 expand_saved_an.right.right.right.left.right.left (kBlk 0 (kSeq k0 expand_saved_an.right.right.right (kFin Try.prog expand_saved_rs Try.f57)))) = expand_saved_p2 n (fun y => k0 (expand_saved_m0 y)) (fun y => r2 (expand_saved_m2 y)) (fun y => rc (cr (cr (cr (cl (cl (cr (cl (cr (cr (cr (bodyOf Try.f57))))))))))) expand_saved_an.right.right.right.left.right.left.left.right.right.right (expand_saved_m3 y) (kSeq r2 expand_saved_an.right.right.right.left.right.left (kBlk 0 (kSeq k0 expand_saved_an.right.right.right (kFin Try.prog expand_saved_rs Try.f57))))) (fun y => rc (cr (cr (cr (cl (cl (cr (cr (cl (cl (cr (cl (cr (cr (cr (bodyOf Try.f57))))))))))))))) expand_saved_an.right.right.right.left.right.left.left.right.right.left.left.right.right.right (expand_saved_m4 y) (kBlk 1 (kSeq (fun st => rc (cr (cr (cr (cl (cl (cr (cl (cr (cr (cr (bodyOf Try.f57))))))))))) expand_saved_an.right.right.right.left.right.left.left.right.right.right st (kSeq r2 expand_saved_an.right.right.right.left.right.left (kBlk 0 (kSeq k0 expand_saved_an.right.right.right (kFin Try.prog expand_saved_rs Try.f57))))) expand_saved_an.right.right.right.left.right.left.left.right.right (kSeq r2 expand_saved_an.right.right.right.left.right.left (kBlk 0 (kSeq k0 expand_saved_an.right.right.right (kFin Try.prog expand_saved_rs Try.f57))))))) z := by kernel_rfl
theorem expand_saved_q2 (n : Nat) (k0 : St → Option (Int × Unit)) (r2 : St → Option (Int × Unit)) (z : expand_saved_t2) : codeK Try.prog expand_saved_sp n (cl (cl (cr (cl (cr (cr (cr (bodyOf Try.f57)))))))) expand_saved_an.right.right.right.left.right.left.left (expand_saved_m2 z) (kSeq r2 expand_saved_an.right.right.right.left.right.left (kBlk 0 (kSeq k0 expand_saved_an.right.right.right (kFin Try.prog expand_saved_rs Try.f57)))) = expand_saved_s2 n (fun y => k0 (expand_saved_m0 y)) (fun y => r2 (expand_saved_m2 y)) z := by
  have h3 : (fun y => codeK Try.prog expand_saved_sp n (cr (cr (cr (cl (cl (cr (cl (cr (cr (cr (bodyOf Try.f57))))))))))) expand_saved_an.right.right.right.left.right.left.left.right.right.right (expand_saved_m3 y) (kSeq r2 expand_saved_an.right.right.right.left.right.left (kBlk 0 (kSeq k0 expand_saved_an.right.right.right (kFin Try.prog expand_saved_rs Try.f57))))) = (expand_saved_s3 n (fun y => k0 (expand_saved_m0 y)) (fun y => r2 (expand_saved_m2 y))) := funext fun y => by
    have := expand_saved_q3 n k0 r2 y
    exact this
  have h4 : (fun y => codeK Try.prog expand_saved_sp n (cr (cr (cr (cl (cl (cr (cr (cl (cl (cr (cl (cr (cr (cr (bodyOf Try.f57))))))))))))))) expand_saved_an.right.right.right.left.right.left.left.right.right.left.left.right.right.right (expand_saved_m4 y) (kBlk 1 (kSeq (fun st => codeK Try.prog expand_saved_sp n (cr (cr (cr (cl (cl (cr (cl (cr (cr (cr (bodyOf Try.f57))))))))))) expand_saved_an.right.right.right.left.right.left.left.right.right.right st (kSeq r2 expand_saved_an.right.right.right.left.right.left (kBlk 0 (kSeq k0 expand_saved_an.right.right.right (kFin Try.prog expand_saved_rs Try.f57))))) expand_saved_an.right.right.right.left.right.left.left.right.right (kSeq r2 expand_saved_an.right.right.right.left.right.left (kBlk 0 (kSeq k0 expand_saved_an.right.right.right (kFin Try.prog expand_saved_rs Try.f57))))))) = (expand_saved_s4 n (fun y => k0 (expand_saved_m0 y)) (fun y => r2 (expand_saved_m2 y)) (expand_saved_s3 n (fun y => k0 (expand_saved_m0 y)) (fun y => r2 (expand_saved_m2 y)))) := funext fun y => by
    have := expand_saved_q4 n k0 r2 (fun st => codeK Try.prog expand_saved_sp n (cr (cr (cr (cl (cl (cr (cl (cr (cr (cr (bodyOf Try.f57))))))))))) expand_saved_an.right.right.right.left.right.left.left.right.right.right st (kSeq r2 expand_saved_an.right.right.right.left.right.left (kBlk 0 (kSeq k0 expand_saved_an.right.right.right (kFin Try.prog expand_saved_rs Try.f57))))) y
    rw [h3] at this; exact this
  rw [codeK_R, expand_saved_e2]
  rw [h3]
  rw [h4]
  rfl
def expand_saved_s1 (n : Nat) (k0 : expand_saved_t0 → Option (Int × Unit)) (z : expand_saved_t1) : Option (Int × Unit) :=
  rounds (fun r2 x' => expand_saved_s2 n k0 r2 x') n (z.1, z.2.1, z.2.2.1, z.2.2.2.1, z.2.2.2.2.1, z.2.2.2.2.2.1, z.2.2.2.2.2.2)
theorem expand_saved_q1 (n : Nat) (k0 : St → Option (Int × Unit)) (z : expand_saved_t1) : codeK Try.prog expand_saved_sp n (cr (cl (cr (cr (cr (bodyOf Try.f57)))))) expand_saved_an.right.right.right.left.right (expand_saved_m1 z) (kSeq k0 expand_saved_an.right.right.right (kFin Try.prog expand_saved_rs Try.f57)) = expand_saved_s1 n (fun y => k0 (expand_saved_m0 y)) z :=
  Eq.trans (b := rounds (fun r2 st => codeK Try.prog expand_saved_sp n (cl (cl (cr (cl (cr (cr (cr (bodyOf Try.f57)))))))) expand_saved_an.right.right.right.left.right.left.left st (kSeq r2 expand_saved_an.right.right.right.left.right.left (kBlk 0 (kSeq k0 expand_saved_an.right.right.right (kFin Try.prog expand_saved_rs Try.f57))))) n (expand_saved_m2 (z.1, z.2.1, z.2.2.1, z.2.2.2.1, z.2.2.2.2.1, z.2.2.2.2.2.1, z.2.2.2.2.2.2))) (by kernel_rfl) (rounds_mk expand_saved_m2 (fun r2 x' => by
    have := (expand_saved_q2 n k0 r2 x')
    exact this) n _)
def expand_saved_px (_n : Nat) (k0 : expand_saved_t0 → Option (Int × Unit)) (k1 : expand_saved_t1 → Option (Int × Unit)) (x : ((List D_api_Rule) × (Int × Unit))) : Option (Int × Unit) :=
  k1 (x.2.1, (0 : Int), false, x.1, (List.length x.1 : Int), (0 : Int), ((0 : Int), ((0 : Int), ((0 : Int), ((0 : Int), ())))))
def expand_saved (n : Nat) (x : ((List D_api_Rule) × (Int × Unit))) : Option (Int × Unit) := expand_saved_px n (expand_saved_s0 n) (expand_saved_s1 n (expand_saved_s0 n)) x
theorem expand_saved_ex (n : Nat) (rc : Code → An → St → (Ex → St → Option (Int × Unit)) → Option (Int × Unit)) (x : ((List D_api_Rule) × (Int × Unit))) : codeR rc Try.prog expand_saved_sp n (bodyOf Try.f57) expand_saved_an (start expand_saved_ps x (Func.ntmps Try.f57)) (kFin Try.prog expand_saved_rs Try.f57) = expand_saved_px n (fun y => rc (cr (cr (cr (cr (bodyOf Try.f57))))) expand_saved_an.right.right.right.right (expand_saved_m0 y) (kFin Try.prog expand_saved_rs Try.f57)) (fun y => rc (cr (cl (cr (cr (cr (bodyOf Try.f57)))))) expand_saved_an.right.right.right.left.right (expand_saved_m1 y) (kSeq (fun st => rc (cr (cr (cr (cr (bodyOf Try.f57))))) expand_saved_an.right.right.right.right st (kFin Try.prog expand_saved_rs Try.f57)) expand_saved_an.right.right.right (kFin Try.prog expand_saved_rs Try.f57))) x := by kernel_rfl
theorem expand_saved_qx (n : Nat) (x : ((List D_api_Rule) × (Int × Unit))) : codeK Try.prog expand_saved_sp n (bodyOf Try.f57) expand_saved_an (start expand_saved_ps x (Func.ntmps Try.f57)) (kFin Try.prog expand_saved_rs Try.f57) = expand_saved n x := by
  have h0 : (fun y => codeK Try.prog expand_saved_sp n (cr (cr (cr (cr (bodyOf Try.f57))))) expand_saved_an.right.right.right.right (expand_saved_m0 y) (kFin Try.prog expand_saved_rs Try.f57)) = (expand_saved_s0 n) := funext fun y => by
    have := expand_saved_q0 n  y
    exact this
  have h1 : (fun y => codeK Try.prog expand_saved_sp n (cr (cl (cr (cr (cr (bodyOf Try.f57)))))) expand_saved_an.right.right.right.left.right (expand_saved_m1 y) (kSeq (fun st => codeK Try.prog expand_saved_sp n (cr (cr (cr (cr (bodyOf Try.f57))))) expand_saved_an.right.right.right.right st (kFin Try.prog expand_saved_rs Try.f57)) expand_saved_an.right.right.right (kFin Try.prog expand_saved_rs Try.f57))) = (expand_saved_s1 n (expand_saved_s0 n)) := funext fun y => by
    have := expand_saved_q1 n (fun st => codeK Try.prog expand_saved_sp n (cr (cr (cr (cr (bodyOf Try.f57))))) expand_saved_an.right.right.right.right st (kFin Try.prog expand_saved_rs Try.f57)) y
    rw [h0] at this; exact this
  rw [codeK_R, expand_saved_ex]
  rw [h0]
  rw [h1]
  rfl
def expand_saved_spec : Sp := ⟨expand_saved_ps, expand_saved_rs, expand_saved⟩
theorem expand_saved_ok : SoundX Try.prog CX 57 (.f expand_saved_spec) := sound_of (look_cons expand_order_ok (look_cons expand_lasting_ahead_ok look_nil)) Try.func57 (by kernel_rfl) rfl expand_saved_an expand_saved_spec rfl rfl expand_saved_qx

/-! ### noonmark/expand.From -/
abbrev expand_From_ps : Ty := (.pair (.list T_api_Rule) T_api_At)
abbrev expand_From_rs : Ty := (.pair (.list T_expand_Fire) .unit)
abbrev expand_From_rr : Ty := .unit
def expand_From_sp : Specs := look [(52, .f expand_lasting_first_spec), (53, .f expand_lasting_last_spec), (54, .f expand_lasting_fire_spec), (56, .i sortFireS), (57, .f expand_saved_spec)]
def expand_From_an : An := (.s .o (.s .o (.k [] [0,1,6] 1 (.k [] [0,1,2,6,19,20,21] 0 .o (.b (.l [(6, (.sl 0 T_expand_Fire), 84)] [0,1,2,6,19,20,21] 1 (.s .o (.s .o (.k [] [0,1,2,6,19,20,21] 1 (.b (.s .o (.s .o (.k [] [0,1,2,6,7,9,10,19,20,21] 3 .o (.b (.l [] [0,1,2,6,7,9,10,19,20,21] 3 (.s .o (.k [] [0,1,2,6,7,9,10,19,20,21] 3 .o .o)))))))) .o)))))) (.s .o (.s .o (.k [] [6] 1 (.k [] [0,6,13,58,59] 1 .o (.b (.l [] [0,6,13,58,59] 1 .o))) .o))))))
abbrev expand_From_t0 := (List D_api_Rule) × Int × (List D_expand_Fire)
def expand_From_m0 (z : expand_From_t0) : St := ⟨[.v ⟨(.list T_api_Rule), z.1⟩, .v ⟨(.int .i64), z.2.1⟩, .junk, .junk, .junk, .junk, .v ⟨(.sl 0 T_expand_Fire), ()⟩, .junk, .junk, .junk, .junk, .junk, .junk, .junk, .junk, .junk, .junk, .junk, .junk, .junk, .junk, .junk, .junk, .junk, .junk, .junk, .junk, .junk, .junk, .junk, .junk, .junk, .junk, .junk, .junk, .junk, .junk, .junk, .junk, .junk, .junk, .junk, .junk, .junk, .junk, .junk, .junk, .junk, .junk, .junk, .junk, .junk, .junk, .junk, .junk, .junk, .junk, .junk, .junk, .junk, .junk, .junk, .junk, .junk, .junk, .junk, .junk, .junk, .junk, .junk, .junk, .junk, .junk, .junk, .junk, .junk, .junk, .junk], [some (.arr 84 T_expand_Fire z.2.2)]⟩
abbrev expand_From_t1 := (List D_api_Rule) × Int × Int × (List D_api_Rule) × Int × Int
def expand_From_m1 (z : expand_From_t1) : St := ⟨[.v ⟨(.list T_api_Rule), z.1⟩, .v ⟨(.int .i64), z.2.1⟩, .v ⟨(.int .i64), z.2.2.1⟩, .junk, .junk, .junk, .v ⟨(.nl T_expand_Fire), ()⟩, .junk, .junk, .junk, .junk, .junk, .junk, .junk, .junk, .junk, .junk, .junk, .junk, .v ⟨(.list T_api_Rule), z.2.2.2.1⟩, .v ⟨(.int .i64), z.2.2.2.2.1⟩, .v ⟨(.int .i64), z.2.2.2.2.2⟩, .junk, .junk, .junk, .junk, .junk, .junk, .junk, .junk, .junk, .junk, .junk, .junk, .junk, .junk, .junk, .junk, .junk, .junk, .junk, .junk, .junk, .junk, .junk, .junk, .junk, .junk, .junk, .junk, .junk, .junk, .junk, .junk, .junk, .junk, .junk, .junk, .junk, .junk, .junk, .junk, .junk, .junk, .junk, .junk, .junk, .junk, .junk, .junk, .junk, .junk, .junk, .junk, .junk, .junk, .junk, .junk], []⟩
abbrev expand_From_t2 := (List D_api_Rule) × Int × Int × (List D_api_Rule) × Int × Int × (List D_expand_Fire)
def expand_From_m2 (z : expand_From_t2) : St := ⟨[.v ⟨(.list T_api_Rule), z.1⟩, .v ⟨(.int .i64), z.2.1⟩, .v ⟨(.int .i64), z.2.2.1⟩, .junk, .junk, .junk, .v ⟨(.sl 0 T_expand_Fire), ()⟩, .junk, .junk, .junk, .junk, .junk, .junk, .junk, .junk, .junk, .junk, .junk, .junk, .v ⟨(.list T_api_Rule), z.2.2.2.1⟩, .v ⟨(.int .i64), z.2.2.2.2.1⟩, .v ⟨(.int .i64), z.2.2.2.2.2.1⟩, .junk, .junk, .junk, .junk, .junk, .junk, .junk, .junk, .junk, .junk, .junk, .junk, .junk, .junk, .junk, .junk, .junk, .junk, .junk, .junk, .junk, .junk, .junk, .junk, .junk, .junk, .junk, .junk, .junk, .junk, .junk, .junk, .junk, .junk, .junk, .junk, .junk, .junk, .junk, .junk, .junk, .junk, .junk, .junk, .junk, .junk, .junk, .junk, .junk, .junk, .junk, .junk, .junk, .junk, .junk, .junk], [some (.arr 84 T_expand_Fire z.2.2.2.2.2.2)]⟩
abbrev expand_From_t3 := (List D_api_Rule) × Int × Int × (List D_api_Rule) × Int × Int × (List D_expand_Fire)
def expand_From_m3 (z : expand_From_t3) : St := ⟨[.v ⟨(.list T_api_Rule), z.1⟩, .v ⟨(.int .i64), z.2.1⟩, .v ⟨(.int .i64), z.2.2.1⟩, .junk, .junk, .junk, .v ⟨(.sl 0 T_expand_Fire), ()⟩, .junk, .junk, .junk, .junk, .junk, .junk, .junk, .junk, .junk, .junk, .junk, .junk, .v ⟨(.list T_api_Rule), z.2.2.2.1⟩, .v ⟨(.int .i64), z.2.2.2.2.1⟩, .v ⟨(.int .i64), z.2.2.2.2.2.1⟩, .junk, .junk, .junk, .junk, .junk, .junk, .junk, .junk, .junk, .junk, .junk, .junk, .junk, .junk, .junk, .junk, .junk, .junk, .junk, .junk, .junk, .junk, .junk, .junk, .junk, .junk, .junk, .junk, .junk, .junk, .junk, .junk, .junk, .junk, .junk, .junk, .junk, .junk, .junk, .junk, .junk, .junk, .junk, .junk, .junk, .junk, .junk, .junk, .junk, .junk, .junk, .junk, .junk, .junk, .junk, .junk], [some (.arr 84 T_expand_Fire z.2.2.2.2.2.2)]⟩
abbrev expand_From_t4 := (List D_api_Rule) × Int × Int × Int × Int × (List D_api_Rule) × Int × Int × (List D_expand_Fire) × D_api_Rule × D_api_Rule
def expand_From_m4 (z : expand_From_t4) : St := ⟨[.v ⟨(.list T_api_Rule), z.1⟩, .v ⟨(.int .i64), z.2.1⟩, .v ⟨(.int .i64), z.2.2.1⟩, .junk, .junk, .junk, .v ⟨(.sl 0 T_expand_Fire), ()⟩, .v ⟨(.int .i64), z.2.2.2.1⟩, .junk, .v ⟨(.ptr 2 0 T_api_Rule), ()⟩, .v ⟨(.int .i64), z.2.2.2.2.1⟩, .junk, .junk, .junk, .junk, .junk, .junk, .junk, .junk, .v ⟨(.list T_api_Rule), z.2.2.2.2.2.1⟩, .v ⟨(.int .i64), z.2.2.2.2.2.2.1⟩, .v ⟨(.int .i64), z.2.2.2.2.2.2.2.1⟩, .junk, .junk, .junk, .junk, .junk, .junk, .junk, .junk, .junk, .junk, .junk, .junk, .junk, .junk, .junk, .junk, .junk, .junk, .junk, .junk, .junk, .junk, .junk, .junk, .junk, .junk, .junk, .junk, .junk, .junk, .junk, .junk, .junk, .junk, .junk, .junk, .junk, .junk, .junk, .junk, .junk, .junk, .junk, .junk, .junk, .junk, .junk, .junk, .junk, .junk, .junk, .junk, .junk, .junk, .junk, .junk], [some (.arr 84 T_expand_Fire z.2.2.2.2.2.2.2.2.1), some (.one ⟨T_api_Rule, z.2.2.2.2.2.2.2.2.2.1⟩), some (.one ⟨T_api_Rule, z.2.2.2.2.2.2.2.2.2.2⟩)]⟩
abbrev expand_From_t5 := (List D_expand_Fire)
def expand_From_m5 (z : expand_From_t5) : St := ⟨[.junk, .junk, .junk, .junk, .junk, .junk, .v ⟨(.sl 0 T_expand_Fire), ()⟩, .junk, .junk, .junk, .junk, .junk, .junk, .junk, .junk, .junk, .junk, .junk, .junk, .junk, .junk, .junk, .junk, .junk, .junk, .junk, .junk, .junk, .junk, .junk, .junk, .junk, .junk, .junk, .junk, .junk, .junk, .junk, .junk, .junk, .junk, .junk, .junk, .junk, .junk, .junk, .junk, .junk, .junk, .junk, .junk, .junk, .junk, .junk, .junk, .junk, .junk, .junk, .junk, .junk, .junk, .junk, .junk, .junk, .junk, .junk, .junk, .junk, .junk, .junk, .junk, .junk, .junk, .junk, .junk, .junk, .junk, .junk], [some (.arr 84 T_expand_Fire z)]⟩
abbrev expand_From_t6 := (List D_api_Rule) × Int × Int × Int × (List D_expand_Fire)
def expand_From_m6 (z : expand_From_t6) : St := ⟨[.v ⟨(.list T_api_Rule), z.1⟩, .junk, .junk, .junk, .junk, .junk, .v ⟨(.sl 0 T_expand_Fire), ()⟩, .junk, .junk, .junk, .junk, .junk, .junk, .v ⟨(.int .i64), z.2.1⟩, .junk, .junk, .junk, .junk, .junk, .junk, .junk, .junk, .junk, .junk, .junk, .junk, .junk, .junk, .junk, .junk, .junk, .junk, .junk, .junk, .junk, .junk, .junk, .junk, .junk, .junk, .junk, .junk, .junk, .junk, .junk, .junk, .junk, .junk, .junk, .junk, .junk, .junk, .junk, .junk, .junk, .junk, .junk, .junk, .v ⟨(.int .i64), z.2.2.1⟩, .v ⟨(.int .i64), z.2.2.2.1⟩, .junk, .junk, .junk, .junk, .junk, .junk, .junk, .junk, .junk, .junk, .junk, .junk, .junk, .junk, .junk, .junk, .junk, .junk], [some (.arr 84 T_expand_Fire z.2.2.2.2)]⟩
abbrev expand_From_t7 := (List D_api_Rule) × Int × Int × Int × Int × (List D_api_Rule) × Int × Int × (List D_expand_Fire) × D_api_Rule × D_api_Rule
def expand_From_m7 (z : expand_From_t7) : St := ⟨[.v ⟨(.list T_api_Rule), z.1⟩, .v ⟨(.int .i64), z.2.1⟩, .v ⟨(.int .i64), z.2.2.1⟩, .junk, .junk, .junk, .v ⟨(.sl 0 T_expand_Fire), ()⟩, .v ⟨(.int .i64), z.2.2.2.1⟩, .junk, .v ⟨(.ptr 2 0 T_api_Rule), ()⟩, .v ⟨(.int .i64), z.2.2.2.2.1⟩, .junk, .junk, .junk, .junk, .junk, .junk, .junk, .junk, .v ⟨(.list T_api_Rule), z.2.2.2.2.2.1⟩, .v ⟨(.int .i64), z.2.2.2.2.2.2.1⟩, .v ⟨(.int .i64), z.2.2.2.2.2.2.2.1⟩, .junk, .junk, .junk, .junk, .junk, .junk, .junk, .junk, .junk, .junk, .junk, .junk, .junk, .junk, .junk, .junk, .junk, .junk, .junk, .junk, .junk, .junk, .junk, .junk, .junk, .junk, .junk, .junk, .junk, .junk, .junk, .junk, .junk, .junk, .junk, .junk, .junk, .junk, .junk, .junk, .junk, .junk, .junk, .junk, .junk, .junk, .junk, .junk, .junk, .junk, .junk, .junk, .junk, .junk, .junk, .junk], [some (.arr 84 T_expand_Fire z.2.2.2.2.2.2.2.2.1), some (.one ⟨T_api_Rule, z.2.2.2.2.2.2.2.2.2.1⟩), some (.one ⟨T_api_Rule, z.2.2.2.2.2.2.2.2.2.2⟩)]⟩
abbrev expand_From_t8 := (List D_api_Rule) × Int × Int × Int × (List D_expand_Fire)
def expand_From_m8 (z : expand_From_t8) : St := ⟨[.v ⟨(.list T_api_Rule), z.1⟩, .junk, .junk, .junk, .junk, .junk, .v ⟨(.sl 0 T_expand_Fire), ()⟩, .junk, .junk, .junk, .junk, .junk, .junk, .v ⟨(.int .i64), z.2.1⟩, .junk, .junk, .junk, .junk, .junk, .junk, .junk, .junk, .junk, .junk, .junk, .junk, .junk, .junk, .junk, .junk, .junk, .junk, .junk, .junk, .junk, .junk, .junk, .junk, .junk, .junk, .junk, .junk, .junk, .junk, .junk, .junk, .junk, .junk, .junk, .junk, .junk, .junk, .junk, .junk, .junk, .junk, .junk, .junk, .v ⟨(.int .i64), z.2.2.1⟩, .v ⟨(.int .i64), z.2.2.2.1⟩, .junk, .junk, .junk, .junk, .junk, .junk, .junk, .junk, .junk, .junk, .junk, .junk, .junk, .junk, .junk, .junk, .junk, .junk], [some (.arr 84 T_expand_Fire z.2.2.2.2)]⟩
abbrev expand_From_t9 := (List D_api_Rule) × Int × Int × Int × Int × (List D_api_Rule) × Int × Int × (List D_expand_Fire) × D_api_Rule × D_api_Rule
def expand_From_m9 (z : expand_From_t9) : St := ⟨[.v ⟨(.list T_api_Rule), z.1⟩, .v ⟨(.int .i64), z.2.1⟩, .v ⟨(.int .i64), z.2.2.1⟩, .junk, .junk, .junk, .v ⟨(.sl 0 T_expand_Fire), ()⟩, .v ⟨(.int .i64), z.2.2.2.1⟩, .junk, .v ⟨(.ptr 2 0 T_api_Rule), ()⟩, .v ⟨(.int .i64), z.2.2.2.2.1⟩, .junk, .junk, .junk, .junk, .junk, .junk, .junk, .junk, .v ⟨(.list T_api_Rule), z.2.2.2.2.2.1⟩, .v ⟨(.int .i64), z.2.2.2.2.2.2.1⟩, .v ⟨(.int .i64), z.2.2.2.2.2.2.2.1⟩, .junk, .junk, .junk, .junk, .junk, .junk, .junk, .junk, .junk, .junk, .junk, .junk, .junk, .junk, .junk, .junk, .junk, .junk, .junk, .junk, .junk, .junk, .junk, .junk, .junk, .junk, .junk, .junk, .junk, .junk, .junk, .junk, .junk, .junk, .junk, .junk, .junk, .junk, .junk, .junk, .junk, .junk, .junk, .junk, .junk, .junk, .junk, .junk, .junk, .junk, .junk, .junk, .junk, .junk, .junk, .junk], [some (.arr 84 T_expand_Fire z.2.2.2.2.2.2.2.2.1), some (.one ⟨T_api_Rule, z.2.2.2.2.2.2.2.2.2.1⟩), some (.one ⟨T_api_Rule, z.2.2.2.2.2.2.2.2.2.2⟩)]⟩
def expand_From_p5 (_n : Nat) (z : expand_From_t5) : Option ((List D_expand_Fire) × Unit) :=
  some (z, ())
def expand_From_s5 (n : Nat) (z : expand_From_t5) : Option ((List D_expand_Fire) × Unit) := expand_From_p5 n z
theorem expand_From_e5 (n : Nat) (rc : Code → An → St → (Ex → St → Option ((List D_expand_Fire) × Unit)) → Option ((List D_expand_Fire) × Unit)) (z : expand_From_t5) : codeR rc Try.prog expand_From_sp n (cr (cr (cr (cr (cr (cr (bodyOf Try.f38))))))) expand_From_an.right.right.right.right.right.right (expand_From_m5 z) (kFinO Try.prog 84 T_expand_Fire expand_From_rr Try.f38) = expand_From_p5 n z := by kernel_rfl
theorem expand_From_q5 (n : Nat) (z : expand_From_t5) : codeK Try.prog expand_From_sp n (cr (cr (cr (cr (cr (cr (bodyOf Try.f38))))))) expand_From_an.right.right.right.right.right.right (expand_From_m5 z) (kFinO Try.prog 84 T_expand_Fire expand_From_rr Try.f38) = expand_From_s5 n z := by
  rw [codeK_R, expand_From_e5]
  rfl
def expand_From_p8 (_n : Nat) (k5 : expand_From_t5 → Option ((List D_expand_Fire) × Unit)) (r8 : expand_From_t8 → Option ((List D_expand_Fire) × Unit)) (z : expand_From_t8) : Option ((List D_expand_Fire) × Unit) :=
  bif (decide (z.2.2.2.1 < z.2.2.1)) then
    bif decide (0 ≤ z.2.2.2.1 ∧ z.2.2.2.1 < (List.length z.2.2.2.2 : Int)) then
      ((z.2.2.2.2[(Int.toNat z.2.2.2.1)]?)).bind fun e15 =>
      bif decide (0 ≤ e15.1) then
        ((z.1[Int.toNat e15.1]?)).bind fun e16 =>
        bif decide (0 ≤ z.2.2.2.1 ∧ z.2.2.2.1 < (List.length z.2.2.2.2 : Int)) then
          ((z.2.2.2.2[(Int.toNat z.2.2.2.1)]?)).bind fun e18 =>
          r8 (z.1, e16.2.2.2.2.2.2.1, z.2.2.1, (w64 (z.2.2.2.1 + 1)), (List.set z.2.2.2.2 (Int.toNat z.2.2.2.1) (e18.1, (e18.2.1, (e18.2.2.1, (z.2.1, e18.2.2.2.2))))))
        else none
      else none
    else none
  else
    k5 z.2.2.2.2
def expand_From_s8 (n : Nat) (k5 : expand_From_t5 → Option ((List D_expand_Fire) × Unit)) (r8 : expand_From_t8 → Option ((List D_expand_Fire) × Unit)) (z : expand_From_t8) : Option ((List D_expand_Fire) × Unit) := expand_From_p8 n k5 r8 z
theorem expand_From_e8 (n : Nat) (k5 : St → Option ((List D_expand_Fire) × Unit)) (r8 : St → Option ((List D_expand_Fire) × Unit)) (rc : Code → An → St → (Ex → St → Option ((List D_expand_Fire) × Unit)) → Option ((List D_expand_Fire) × Unit)) (z : expand_From_t8) : codeR rc Try.prog expand_From_sp n (cl (cl (cr (cl (cr (cr (cr (cr (cr (bodyOf Try.f38)))))))))) expand_From_an.right.right.right.right.right.left.right.left.left (expand_From_m8 z) (kSeq r8 expand_From_an.right.right.right.right.right.left.right.left (kBlk 4 (kSeq k5 expand_From_an.right.right.right.right.right (kFinO Try.prog 84 T_expand_Fire expand_From_rr Try.f38)))) = expand_From_p8 n (fun y => k5 (expand_From_m5 y)) (fun y => r8 (expand_From_m8 y)) z := by kernel_rfl
theorem expand_From_q8 (n : Nat) (k5 : St → Option ((List D_expand_Fire) × Unit)) (r8 : St → Option ((List D_expand_Fire) × Unit)) (z : expand_From_t8) : codeK Try.prog expand_From_sp n (cl (cl (cr (cl (cr (cr (cr (cr (cr (bodyOf Try.f38)))))))))) expand_From_an.right.right.right.right.right.left.right.left.left (expand_From_m8 z) (kSeq r8 expand_From_an.right.right.right.right.right.left.right.left (kBlk 4 (kSeq k5 expand_From_an.right.right.right.right.right (kFinO Try.prog 84 T_expand_Fire expand_From_rr Try.f38)))) = expand_From_s8 n (fun y => k5 (expand_From_m5 y)) (fun y => r8 (expand_From_m8 y)) z := by
  rw [codeK_R, expand_From_e8]
  rfl
def expand_From_s6 (n : Nat) (k5 : expand_From_t5 → Option ((List D_expand_Fire) × Unit)) (z : expand_From_t6) : Option ((List D_expand_Fire) × Unit) :=
  rounds (fun r8 x' => expand_From_s8 n k5 r8 x') n (z.1, z.2.1, z.2.2.1, z.2.2.2.1, z.2.2.2.2)
theorem expand_From_q6 (n : Nat) (k5 : St → Option ((List D_expand_Fire) × Unit)) (z : expand_From_t6) : codeK Try.prog expand_From_sp n (cr (cl (cr (cr (cr (cr (cr (bodyOf Try.f38)))))))) expand_From_an.right.right.right.right.right.left.right (expand_From_m6 z) (kSeq k5 expand_From_an.right.right.right.right.right (kFinO Try.prog 84 T_expand_Fire expand_From_rr Try.f38)) = expand_From_s6 n (fun y => k5 (expand_From_m5 y)) z :=
  Eq.trans (b := rounds (fun r8 st => codeK Try.prog expand_From_sp n (cl (cl (cr (cl (cr (cr (cr (cr (cr (bodyOf Try.f38)))))))))) expand_From_an.right.right.right.right.right.left.right.left.left st (kSeq r8 expand_From_an.right.right.right.right.right.left.right.left (kBlk 4 (kSeq k5 expand_From_an.right.right.right.right.right (kFinO Try.prog 84 T_expand_Fire expand_From_rr Try.f38))))) n (expand_From_m8 (z.1, z.2.1, z.2.2.1, z.2.2.2.1, z.2.2.2.2))) (by kernel_rfl) (rounds_mk expand_From_m8 (fun r8 x' => by
    have := (expand_From_q8 n k5 r8 x')
    exact this) n _)
def expand_From_p0 (n : Nat) (k5 : expand_From_t5 → Option ((List D_expand_Fire) × Unit)) (k6 : expand_From_t6 → Option ((List D_expand_Fire) × Unit)) (z : expand_From_t0) : Option ((List D_expand_Fire) × Unit) :=
  ((sortFireF n z.2.2 ((), ()))).bind fun s6 =>
  ((expand_saved n (z.1, (z.2.1, ())))).bind fun v7 =>
  k6 (z.1, v7.1, (List.length s6 : Int), (0 : Int), s6)
def expand_From_s0 (n : Nat) (z : expand_From_t0) : Option ((List D_expand_Fire) × Unit) := expand_From_p0 n (expand_From_s5 n) (expand_From_s6 n (expand_From_s5 n)) z
theorem expand_From_e0 (n : Nat) (rc : Code → An → St → (Ex → St → Option ((List D_expand_Fire) × Unit)) → Option ((List D_expand_Fire) × Unit)) (z : expand_From_t0) : codeR rc Try.prog expand_From_sp n (cr (cr (cr (bodyOf Try.f38)))) expand_From_an.right.right.right (expand_From_m0 z) (kFinO Try.prog 84 T_expand_Fire expand_From_rr Try.f38) = expand_From_p0 n (fun y => rc (cr (cr (cr (cr (cr (cr (bodyOf Try.f38))))))) expand_From_an.right.right.right.right.right.right (expand_From_m5 y) (kFinO Try.prog 84 T_expand_Fire expand_From_rr Try.f38)) (fun y => rc (cr (cl (cr (cr (cr (cr (cr (bodyOf Try.f38)))))))) expand_From_an.right.right.right.right.right.left.right (expand_From_m6 y) (kSeq (fun st => rc (cr (cr (cr (cr (cr (cr (bodyOf Try.f38))))))) expand_From_an.right.right.right.right.right.right st (kFinO Try.prog 84 T_expand_Fire expand_From_rr Try.f38)) expand_From_an.right.right.right.right.right (kFinO Try.prog 84 T_expand_Fire expand_From_rr Try.f38))) z := by kernel_rfl
theorem expand_From_q0 (n : Nat) (z : expand_From_t0) : codeK Try.prog expand_From_sp n (cr (cr (cr (bodyOf Try.f38)))) expand_From_an.right.right.right (expand_From_m0 z) (kFinO Try.prog 84 T_expand_Fire expand_From_rr Try.f38) = expand_From_s0 n z := by
  have h5 : (fun y => codeK Try.prog expand_From_sp n (cr (cr (cr (cr (cr (cr (bodyOf Try.f38))))))) expand_From_an.right.right.right.right.right.right (expand_From_m5 y) (kFinO Try.prog 84 T_expand_Fire expand_From_rr Try.f38)) = (expand_From_s5 n) := funext fun y => by
    have := expand_From_q5 n  y
    exact this
  have h6 : (fun y => codeK Try.prog expand_From_sp n (cr (cl (cr (cr (cr (cr (cr (bodyOf Try.f38)))))))) expand_From_an.right.right.right.right.right.left.right (expand_From_m6 y) (kSeq (fun st => codeK Try.prog expand_From_sp n (cr (cr (cr (cr (cr (cr (bodyOf Try.f38))))))) expand_From_an.right.right.right.right.right.right st (kFinO Try.prog 84 T_expand_Fire expand_From_rr Try.f38)) expand_From_an.right.right.right.right.right (kFinO Try.prog 84 T_expand_Fire expand_From_rr Try.f38))) = (expand_From_s6 n (expand_From_s5 n)) := funext fun y => by
    have := expand_From_q6 n (fun st => codeK Try.prog expand_From_sp n (cr (cr (cr (cr (cr (cr (bodyOf Try.f38))))))) expand_From_an.right.right.right.right.right.right st (kFinO Try.prog 84 T_expand_Fire expand_From_rr Try.f38)) y
    rw [h5] at this; exact this
  rw [codeK_R, expand_From_e0]
  rw [h5]
  rw [h6]
  rfl
def expand_From_p3 (_n : Nat) (_k0 : expand_From_t0 → Option ((List D_expand_Fire) × Unit)) (r2 : expand_From_t2 → Option ((List D_expand_Fire) × Unit)) (z : expand_From_t3) : Option ((List D_expand_Fire) × Unit) :=
  r2 (z.1, z.2.1, z.2.2.1, z.2.2.2.1, z.2.2.2.2.1, (w64 (z.2.2.2.2.2.1 + 1)), z.2.2.2.2.2.2)
def expand_From_s3 (n : Nat) (k0 : expand_From_t0 → Option ((List D_expand_Fire) × Unit)) (r2 : expand_From_t2 → Option ((List D_expand_Fire) × Unit)) (z : expand_From_t3) : Option ((List D_expand_Fire) × Unit) := expand_From_p3 n k0 r2 z
theorem expand_From_e3 (n : Nat) (k0 : St → Option ((List D_expand_Fire) × Unit)) (r2 : St → Option ((List D_expand_Fire) × Unit)) (rc : Code → An → St → (Ex → St → Option ((List D_expand_Fire) × Unit)) → Option ((List D_expand_Fire) × Unit)) (z : expand_From_t3) : codeR rc Try.prog expand_From_sp n (cr (cr (cr (cl (cl (cr (cl (cr (cr (bodyOf Try.f38)))))))))) expand_From_an.right.right.left.right.left.left.right.right.right (expand_From_m3 z) (kSeq r2 expand_From_an.right.right.left.right.left (kBlk 0 (kSeq k0 expand_From_an.right.right (kFinO Try.prog 84 T_expand_Fire expand_From_rr Try.f38)))) = expand_From_p3 n (fun y => k0 (expand_From_m0 y)) (fun y => r2 (expand_From_m2 y)) z := by kernel_rfl
theorem expand_From_q3 (n : Nat) (k0 : St → Option ((List D_expand_Fire) × Unit)) (r2 : St → Option ((List D_expand_Fire) × Unit)) (z : expand_From_t3) : codeK Try.prog expand_From_sp n (cr (cr (cr (cl (cl (cr (cl (cr (cr (bodyOf Try.f38)))))))))) expand_From_an.right.right.left.right.left.left.right.right.right (expand_From_m3 z) (kSeq r2 expand_From_an.right.right.left.right.left (kBlk 0 (kSeq k0 expand_From_an.right.right (kFinO Try.prog 84 T_expand_Fire expand_From_rr Try.f38)))) = expand_From_s3 n (fun y => k0 (expand_From_m0 y)) (fun y => r2 (expand_From_m2 y)) z := by
  rw [codeK_R, expand_From_e3]
  rfl
def expand_From_p9 (_n : Nat) (_k0 : expand_From_t0 → Option ((List D_expand_Fire) × Unit)) (_r2 : expand_From_t2 → Option ((List D_expand_Fire) × Unit)) (_k3 : expand_From_t3 → Option ((List D_expand_Fire) × Unit)) (r7 : expand_From_t7 → Option ((List D_expand_Fire) × Unit)) (z : expand_From_t9) : Option ((List D_expand_Fire) × Unit) :=
  r7 (z.1, z.2.1, z.2.2.1, z.2.2.2.1, (w64 (z.2.2.2.2.1 + 1)), z.2.2.2.2.2.1, z.2.2.2.2.2.2.1, z.2.2.2.2.2.2.2.1, z.2.2.2.2.2.2.2.2.1, z.2.2.2.2.2.2.2.2.2.1, z.2.2.2.2.2.2.2.2.2.2)
def expand_From_s9 (n : Nat) (k0 : expand_From_t0 → Option ((List D_expand_Fire) × Unit)) (r2 : expand_From_t2 → Option ((List D_expand_Fire) × Unit)) (k3 : expand_From_t3 → Option ((List D_expand_Fire) × Unit)) (r7 : expand_From_t7 → Option ((List D_expand_Fire) × Unit)) (z : expand_From_t9) : Option ((List D_expand_Fire) × Unit) := expand_From_p9 n k0 r2 k3 r7 z
theorem expand_From_e9 (n : Nat) (k0 : St → Option ((List D_expand_Fire) × Unit)) (r2 : St → Option ((List D_expand_Fire) × Unit)) (k3 : St → Option ((List D_expand_Fire) × Unit)) (r7 : St → Option ((List D_expand_Fire) × Unit)) (rc : Code → An → St → (Ex → St → Option ((List D_expand_Fire) × Unit)) → Option ((List D_expand_Fire) × Unit)) (z : expand_From_t9) : codeR rc Try.prog expand_From_sp n (cr (cr (cl (cl (cr (cr (cr (cl (cl (cr (cr (cl (cl (cr (cl (cr (cr (bodyOf Try.f38)))))))))))))))))) expand_From_an.right.right.left.right.left.left.right.right.left.left.right.right.right.left.left.right.right (expand_From_m9 z) (kSeq r7 expand_From_an.right.right.left.right.left.left.right.right.left.left.right.right.right.left (kBlk 2 (kBlk 1 (kSeq k3 expand_From_an.right.right.left.right.left.left.right.right (kSeq r2 expand_From_an.right.right.left.right.left (kBlk 0 (kSeq k0 expand_From_an.right.right (kFinO Try.prog 84 T_expand_Fire expand_From_rr Try.f38)))))))) = expand_From_p9 n (fun y => k0 (expand_From_m0 y)) (fun y => r2 (expand_From_m2 y)) (fun y => k3 (expand_From_m3 y)) (fun y => r7 (expand_From_m7 y)) z := by kernel_rfl
theorem expand_From_q9 (n : Nat) (k0 : St → Option ((List D_expand_Fire) × Unit)) (r2 : St → Option ((List D_expand_Fire) × Unit)) (k3 : St → Option ((List D_expand_Fire) × Unit)) (r7 : St → Option ((List D_expand_Fire) × Unit)) (z : expand_From_t9) : codeK Try.prog expand_From_sp n (cr (cr (cl (cl (cr (cr (cr (cl (cl (cr (cr (cl (cl (cr (cl (cr (cr (bodyOf Try.f38)))))))))))))))))) expand_From_an.right.right.left.right.left.left.right.right.left.left.right.right.right.left.left.right.right (expand_From_m9 z) (kSeq r7 expand_From_an.right.right.left.right.left.left.right.right.left.left.right.right.right.left (kBlk 2 (kBlk 1 (kSeq k3 expand_From_an.right.right.left.right.left.left.right.right (kSeq r2 expand_From_an.right.right.left.right.left (kBlk 0 (kSeq k0 expand_From_an.right.right (kFinO Try.prog 84 T_expand_Fire expand_From_rr Try.f38)))))))) = expand_From_s9 n (fun y => k0 (expand_From_m0 y)) (fun y => r2 (expand_From_m2 y)) (fun y => k3 (expand_From_m3 y)) (fun y => r7 (expand_From_m7 y)) z := by
  rw [codeK_R, expand_From_e9]
  rfl
def expand_From_p7 (n : Nat) (_k0 : expand_From_t0 → Option ((List D_expand_Fire) × Unit)) (_r2 : expand_From_t2 → Option ((List D_expand_Fire) × Unit)) (k3 : expand_From_t3 → Option ((List D_expand_Fire) × Unit)) (_r7 : expand_From_t7 → Option ((List D_expand_Fire) × Unit)) (k9 : expand_From_t9 → Option ((List D_expand_Fire) × Unit)) (z : expand_From_t7) : Option ((List D_expand_Fire) × Unit) :=
  ((expand_lasting_last n (z.2.2.2.2.2.2.2.2.2.2, ()))).bind fun v8 =>
  bif (decide (z.2.2.2.2.1 ≤ (imin z.2.2.1 v8.1))) then
    ((expand_lasting_fire n (z.2.2.2.2.2.2.2.2.2.2, (z.2.2.2.1, (z.2.2.2.2.1, ()))))).bind fun v10 =>
    bif v10.2.1 then
      let t11 := (v10.1 :: [])
      bif decide ((List.length z.2.2.2.2.2.2.2.2.1 + List.length t11) * (32 + 1) ≤ 140737488355328) then
        k9 (z.1, z.2.1, z.2.2.1, z.2.2.2.1, z.2.2.2.2.1, z.2.2.2.2.2.1, z.2.2.2.2.2.2.1, z.2.2.2.2.2.2.2.1, (z.2.2.2.2.2.2.2.2.1 ++ t11), z.2.2.2.2.2.2.2.2.2.1, z.2.2.2.2.2.2.2.2.2.2)
      else none
    else
      k9 (z.1, z.2.1, z.2.2.1, z.2.2.2.1, z.2.2.2.2.1, z.2.2.2.2.2.1, z.2.2.2.2.2.2.1, z.2.2.2.2.2.2.2.1, z.2.2.2.2.2.2.2.2.1, z.2.2.2.2.2.2.2.2.2.1, z.2.2.2.2.2.2.2.2.2.2)
  else
    k3 (z.1, z.2.1, z.2.2.1, z.2.2.2.2.2.1, z.2.2.2.2.2.2.1, z.2.2.2.2.2.2.2.1, z.2.2.2.2.2.2.2.2.1)
def expand_From_s7 (n : Nat) (k0 : expand_From_t0 → Option ((List D_expand_Fire) × Unit)) (r2 : expand_From_t2 → Option ((List D_expand_Fire) × Unit)) (k3 : expand_From_t3 → Option ((List D_expand_Fire) × Unit)) (r7 : expand_From_t7 → Option ((List D_expand_Fire) × Unit)) (z : expand_From_t7) : Option ((List D_expand_Fire) × Unit) := expand_From_p7 n k0 r2 k3 r7 (expand_From_s9 n k0 r2 k3 r7) z
theorem expand_From_e7 (n : Nat) (k0 : St → Option ((List D_expand_Fire) × Unit)) (r2 : St → Option ((List D_expand_Fire) × Unit)) (k3 : St → Option ((List D_expand_Fire) × Unit)) (r7 : St → Option ((List D_expand_Fire) × Unit)) (rc : Code → An → St → (Ex → St → Option ((List D_expand_Fire) × Unit)) → Option ((List D_expand_Fire) × Unit)) (z : expand_From_t7) : codeR rc Try.prog expand_From_sp n (cl (cl (cr (cr (cr (cl (cl (cr (cr (cl (cl (cr (cl (cr (cr (bodyOf Try.f38)))))))))))))))) expand_From_an.right.right.left.right.left.left.right.right.left.left.right.right.right.left.left (expand_From_m7 z) (kSeq r7 expand_From_an.right.right.left.right.left.left.right.right.left.left.right.right.right.left (kBlk 2 (kBlk 1 (kSeq k3 expand_From_an.right.right.left.right.left.left.right.right (kSeq r2 expand_From_an.right.right.left.right.left (kBlk 0 (kSeq k0 expand_From_an.right.right (kFinO Try.prog 84 T_expand_Fire expand_From_rr Try.f38)))))))) = expand_From_p7 n (fun y => k0 (expand_From_m0 y)) (fun y => r2 (expand_From_m2 y)) (fun y => k3 (expand_From_m3 y)) (fun y => r7 (expand_From_m7 y)) (fun y => rc (cr (cr (cl (cl (cr (cr (cr (cl (cl (cr (cr (cl (cl (cr (cl (cr (cr (bodyOf Try.f38)))))))))))))))))) expand_From_an.right.right.left.right.left.left.right.right.left.left.right.right.right.left.left.right.right (expand_From_m9 y) (kSeq r7 expand_From_an.right.right.left.right.left.left.right.right.left.left.right.right.right.left (kBlk 2 (kBlk 1 (kSeq k3 expand_From_an.right.right.left.right.left.left.right.right (kSeq r2 expand_From_an.right.right.left.right.left (kBlk 0 (kSeq k0 expand_From_an.right.right (kFinO Try.prog 84 T_expand_Fire expand_From_rr Try.f38))))))))) z := by kernel_rfl
theorem expand_From_q7 (n : Nat) (k0 : St → Option ((List D_expand_Fire) × Unit)) (r2 : St → Option ((List D_expand_Fire) × Unit)) (k3 : St → Option ((List D_expand_Fire) × Unit)) (r7 : St → Option ((List D_expand_Fire) × Unit)) (z : expand_From_t7) : codeK Try.prog expand_From_sp n (cl (cl (cr (cr (cr (cl (cl (cr (cr (cl (cl (cr (cl (cr (cr (bodyOf Try.f38)))))))))))))))) expand_From_an.right.right.left.right.left.left.right.right.left.left.right.right.right.left.left (expand_From_m7 z) (kSeq r7 expand_From_an.right.right.left.right.left.left.right.right.left.left.right.right.right.left (kBlk 2 (kBlk 1 (kSeq k3 expand_From_an.right.right.left.right.left.left.right.right (kSeq r2 expand_From_an.right.right.left.right.left (kBlk 0 (kSeq k0 expand_From_an.right.right (kFinO Try.prog 84 T_expand_Fire expand_From_rr Try.f38)))))))) = expand_From_s7 n (fun y => k0 (expand_From_m0 y)) (fun y => r2 (expand_From_m2 y)) (fun y => k3 (expand_From_m3 y)) (fun y => r7 (expand_From_m7 y)) z := by
  have h9 : (fun y => codeK Try.prog expand_From_sp n (cr (cr (cl (cl (cr (cr (cr (cl (cl (cr (cr (cl (cl (cr (cl (cr (cr (bodyOf Try.f38)))))))))))))))))) expand_From_an.right.right.left.right.left.left.right.right.left.left.right.right.right.left.left.right.right (expand_From_m9 y) (kSeq r7 expand_From_an.right.right.left.right.left.left.right.right.left.left.right.right.right.left (kBlk 2 (kBlk 1 (kSeq k3 expand_From_an.right.right.left.right.left.left.right.right (kSeq r2 expand_From_an.right.right.left.right.left (kBlk 0 (kSeq k0 expand_From_an.right.right (kFinO Try.prog 84 T_expand_Fire expand_From_rr Try.f38))))))))) = (expand_From_s9 n (fun y => k0 (expand_From_m0 y)) (fun y => r2 (expand_From_m2 y)) (fun y => k3 (expand_From_m3 y)) (fun y => r7 (expand_From_m7 y))) := funext fun y => by
    have := expand_From_q9 n k0 r2 k3 r7 y
    exact this
  rw [codeK_R, expand_From_e7]
  rw [h9]
  rfl
def expand_From_s4 (n : Nat) (k0 : expand_From_t0 → Option ((List D_expand_Fire) × Unit)) (r2 : expand_From_t2 → Option ((List D_expand_Fire) × Unit)) (k3 : expand_From_t3 → Option ((List D_expand_Fire) × Unit)) (z : expand_From_t4) : Option ((List D_expand_Fire) × Unit) :=
  rounds (fun r7 x' => expand_From_s7 n k0 r2 k3 r7 x') n (z.1, z.2.1, z.2.2.1, z.2.2.2.1, z.2.2.2.2.1, z.2.2.2.2.2.1, z.2.2.2.2.2.2.1, z.2.2.2.2.2.2.2.1, z.2.2.2.2.2.2.2.2.1, z.2.2.2.2.2.2.2.2.2.1, z.2.2.2.2.2.2.2.2.2.2)
theorem expand_From_q4 (n : Nat) (k0 : St → Option ((List D_expand_Fire) × Unit)) (r2 : St → Option ((List D_expand_Fire) × Unit)) (k3 : St → Option ((List D_expand_Fire) × Unit)) (z : expand_From_t4) : codeK Try.prog expand_From_sp n (cr (cr (cr (cl (cl (cr (cr (cl (cl (cr (cl (cr (cr (bodyOf Try.f38)))))))))))))) expand_From_an.right.right.left.right.left.left.right.right.left.left.right.right.right (expand_From_m4 z) (kBlk 1 (kSeq k3 expand_From_an.right.right.left.right.left.left.right.right (kSeq r2 expand_From_an.right.right.left.right.left (kBlk 0 (kSeq k0 expand_From_an.right.right (kFinO Try.prog 84 T_expand_Fire expand_From_rr Try.f38)))))) = expand_From_s4 n (fun y => k0 (expand_From_m0 y)) (fun y => r2 (expand_From_m2 y)) (fun y => k3 (expand_From_m3 y)) z :=
  Eq.trans (b := rounds (fun r7 st => codeK Try.prog expand_From_sp n (cl (cl (cr (cr (cr (cl (cl (cr (cr (cl (cl (cr (cl (cr (cr (bodyOf Try.f38)))))))))))))))) expand_From_an.right.right.left.right.left.left.right.right.left.left.right.right.right.left.left st (kSeq r7 expand_From_an.right.right.left.right.left.left.right.right.left.left.right.right.right.left (kBlk 2 (kBlk 1 (kSeq k3 expand_From_an.right.right.left.right.left.left.right.right (kSeq r2 expand_From_an.right.right.left.right.left (kBlk 0 (kSeq k0 expand_From_an.right.right (kFinO Try.prog 84 T_expand_Fire expand_From_rr Try.f38))))))))) n (expand_From_m7 (z.1, z.2.1, z.2.2.1, z.2.2.2.1, z.2.2.2.2.1, z.2.2.2.2.2.1, z.2.2.2.2.2.2.1, z.2.2.2.2.2.2.2.1, z.2.2.2.2.2.2.2.2.1, z.2.2.2.2.2.2.2.2.2.1, z.2.2.2.2.2.2.2.2.2.2))) (by kernel_rfl) (rounds_mk expand_From_m7 (fun r7 x' => by
    have := (expand_From_q7 n k0 r2 k3 r7 x')
    exact this) n _)
def expand_From_p2 (n : Nat) (k0 : expand_From_t0 → Option ((List D_expand_Fire) × Unit)) (_r2 : expand_From_t2 → Option ((List D_expand_Fire) × Unit)) (k3 : expand_From_t3 → Option ((List D_expand_Fire) × Unit)) (k4 : expand_From_t4 → Option ((List D_expand_Fire) × Unit)) (z : expand_From_t2) : Option ((List D_expand_Fire) × Unit) :=
  bif (decide (z.2.2.2.2.2.1 < z.2.2.2.2.1)) then
    bif decide (0 ≤ z.2.2.2.2.2.1) then
      ((z.2.2.2.1[Int.toNat z.2.2.2.2.2.1]?)).bind fun e3 =>
      ((expand_lasting_first n (e3, ()))).bind fun v4 =>
      k4 (z.1, z.2.1, z.2.2.1, z.2.2.2.2.2.1, (imax z.2.1 v4.1), z.2.2.2.1, z.2.2.2.2.1, z.2.2.2.2.2.1, z.2.2.2.2.2.2, e3, e3)
    else none
  else
    k0 (z.1, z.2.1, z.2.2.2.2.2.2)
def expand_From_s2 (n : Nat) (k0 : expand_From_t0 → Option ((List D_expand_Fire) × Unit)) (r2 : expand_From_t2 → Option ((List D_expand_Fire) × Unit)) (z : expand_From_t2) : Option ((List D_expand_Fire) × Unit) := expand_From_p2 n k0 r2 (expand_From_s3 n k0 r2) (expand_From_s4 n k0 r2 (expand_From_s3 n k0 r2)) z
theorem expand_From_e2 (n : Nat) (k0 : St → Option ((List D_expand_Fire) × Unit)) (r2 : St → Option ((List D_expand_Fire) × Unit)) (rc : Code → An → St → (Ex → St → Option ((List D_expand_Fire) × Unit)) → Option ((List D_expand_Fire) × Unit)) (z : expand_From_t2) : codeR rc Try.prog expand_From_sp n (cl (cl (cr (cl (cr (cr (bodyOf Try.f38))))))) expand_From_an.right.right.left.right.left.left (expand_From_m2 z) (kSeq r2 expand_From_an.right.right.left.right.left (kBlk 0 (kSeq k0 expand_From_an.right.right (kFinO Try.prog 84 T_expand_Fire expand_From_rr Try.f38)))) = expand_From_p2 n (fun y => k0 (expand_From_m0 y)) (fun y => r2 (expand_From_m2 y)) (fun y => rc (cr (cr (cr (cl (cl (cr (cl (cr (cr (bodyOf Try.f38)))))))))) expand_From_an.right.right.left.right.left.left.right.right.right (expand_From_m3 y) (kSeq r2 expand_From_an.right.right.left.right.left (kBlk 0 (kSeq k0 expand_From_an.right.right (kFinO Try.prog 84 T_expand_Fire expand_From_rr Try.f38))))) (fun y => rc (cr (cr (cr (cl (cl (cr (cr (cl (cl (cr (cl (cr (cr (bodyOf Try.f38)))))))))))))) expand_From_an.right.right.left.right.left.left.right.right.left.left.right.right.right (expand_From_m4 y) (kBlk 1 (kSeq (fun st => rc (cr (cr (cr (cl (cl (cr (cl (cr (cr (bodyOf Try.f38)))))))))) expand_From_an.right.right.left.right.left.left.right.right.right st (kSeq r2 expand_From_an.right.right.left.right.left (kBlk 0 (kSeq k0 expand_From_an.right.right (kFinO Try.prog 84 T_expand_Fire expand_From_rr Try.f38))))) expand_From_an.right.right.left.right.left.left.right.right (kSeq r2 expand_From_an.right.right.left.right.left (kBlk 0 (kSeq k0 expand_From_an.right.right (kFinO Try.prog 84 T_expand_Fire expand_From_rr Try.f38))))))) z := by kernel_rfl
theorem expand_From_q2 (n : Nat) (k0 : St → Option ((List D_expand_Fire) × Unit)) (r2 : St → Option ((List D_expand_Fire) × Unit)) (z : expand_From_t2) : codeK Try.prog expand_From_sp n (cl (cl (cr (cl (cr (cr (bodyOf Try.f38))))))) expand_From_an.right.right.left.right.left.left (expand_From_m2 z) (kSeq r2 expand_From_an.right.right.left.right.left (kBlk 0 (kSeq k0 expand_From_an.right.right (kFinO Try.prog 84 T_expand_Fire expand_From_rr Try.f38)))) = expand_From_s2 n (fun y => k0 (expand_From_m0 y)) (fun y => r2 (expand_From_m2 y)) z := by
  have h3 : (fun y => codeK Try.prog expand_From_sp n (cr (cr (cr (cl (cl (cr (cl (cr (cr (bodyOf Try.f38)))))))))) expand_From_an.right.right.left.right.left.left.right.right.right (expand_From_m3 y) (kSeq r2 expand_From_an.right.right.left.right.left (kBlk 0 (kSeq k0 expand_From_an.right.right (kFinO Try.prog 84 T_expand_Fire expand_From_rr Try.f38))))) = (expand_From_s3 n (fun y => k0 (expand_From_m0 y)) (fun y => r2 (expand_From_m2 y))) := funext fun y => by
    have := expand_From_q3 n k0 r2 y
    exact this
  have h4 : (fun y => codeK Try.prog expand_From_sp n (cr (cr (cr (cl (cl (cr (cr (cl (cl (cr (cl (cr (cr (bodyOf Try.f38)))))))))))))) expand_From_an.right.right.left.right.left.left.right.right.left.left.right.right.right (expand_From_m4 y) (kBlk 1 (kSeq (fun st => codeK Try.prog expand_From_sp n (cr (cr (cr (cl (cl (cr (cl (cr (cr (bodyOf Try.f38)))))))))) expand_From_an.right.right.left.right.left.left.right.right.right st (kSeq r2 expand_From_an.right.right.left.right.left (kBlk 0 (kSeq k0 expand_From_an.right.right (kFinO Try.prog 84 T_expand_Fire expand_From_rr Try.f38))))) expand_From_an.right.right.left.right.left.left.right.right (kSeq r2 expand_From_an.right.right.left.right.left (kBlk 0 (kSeq k0 expand_From_an.right.right (kFinO Try.prog 84 T_expand_Fire expand_From_rr Try.f38))))))) = (expand_From_s4 n (fun y => k0 (expand_From_m0 y)) (fun y => r2 (expand_From_m2 y)) (expand_From_s3 n (fun y => k0 (expand_From_m0 y)) (fun y => r2 (expand_From_m2 y)))) := funext fun y => by
    have := expand_From_q4 n k0 r2 (fun st => codeK Try.prog expand_From_sp n (cr (cr (cr (cl (cl (cr (cl (cr (cr (bodyOf Try.f38)))))))))) expand_From_an.right.right.left.right.left.left.right.right.right st (kSeq r2 expand_From_an.right.right.left.right.left (kBlk 0 (kSeq k0 expand_From_an.right.right (kFinO Try.prog 84 T_expand_Fire expand_From_rr Try.f38))))) y
    rw [h3] at this; exact this
  rw [codeK_R, expand_From_e2]
  rw [h3]
  rw [h4]
  rfl
def expand_From_s1 (n : Nat) (k0 : expand_From_t0 → Option ((List D_expand_Fire) × Unit)) (z : expand_From_t1) : Option ((List D_expand_Fire) × Unit) :=
  rounds (fun r2 x' => expand_From_s2 n k0 r2 x') n (z.1, z.2.1, z.2.2.1, z.2.2.2.1, z.2.2.2.2.1, z.2.2.2.2.2, ([] : List D_expand_Fire))
theorem expand_From_q1 (n : Nat) (k0 : St → Option ((List D_expand_Fire) × Unit)) (z : expand_From_t1) : codeK Try.prog expand_From_sp n (cr (cl (cr (cr (bodyOf Try.f38))))) expand_From_an.right.right.left.right (expand_From_m1 z) (kSeq k0 expand_From_an.right.right (kFinO Try.prog 84 T_expand_Fire expand_From_rr Try.f38)) = expand_From_s1 n (fun y => k0 (expand_From_m0 y)) z :=
  Eq.trans (b := rounds (fun r2 st => codeK Try.prog expand_From_sp n (cl (cl (cr (cl (cr (cr (bodyOf Try.f38))))))) expand_From_an.right.right.left.right.left.left st (kSeq r2 expand_From_an.right.right.left.right.left (kBlk 0 (kSeq k0 expand_From_an.right.right (kFinO Try.prog 84 T_expand_Fire expand_From_rr Try.f38))))) n (expand_From_m2 (z.1, z.2.1, z.2.2.1, z.2.2.2.1, z.2.2.2.2.1, z.2.2.2.2.2, ([] : List D_expand_Fire)))) (by kernel_rfl) (rounds_mk expand_From_m2 (fun r2 x' => by
    have := (expand_From_q2 n k0 r2 x')
    exact this) n _)
def expand_From_px (_n : Nat) (k0 : expand_From_t0 → Option ((List D_expand_Fire) × Unit)) (k1 : expand_From_t1 → Option ((List D_expand_Fire) × Unit)) (x : ((List D_api_Rule) × D_api_At)) : Option ((List D_expand_Fire) × Unit) :=
  k1 (x.1, (imax x.2.1 (1 : Int)), (imin x.2.2.1 (9999 : Int)), x.1, (List.length x.1 : Int), (0 : Int))
def expand_From (n : Nat) (x : ((List D_api_Rule) × D_api_At)) : Option ((List D_expand_Fire) × Unit) := expand_From_px n (expand_From_s0 n) (expand_From_s1 n (expand_From_s0 n)) x
theorem expand_From_ex (n : Nat) (rc : Code → An → St → (Ex → St → Option ((List D_expand_Fire) × Unit)) → Option ((List D_expand_Fire) × Unit)) (x : ((List D_api_Rule) × D_api_At)) : codeR rc Try.prog expand_From_sp n (bodyOf Try.f38) expand_From_an (start expand_From_ps x (Func.ntmps Try.f38)) (kFinO Try.prog 84 T_expand_Fire expand_From_rr Try.f38) = expand_From_px n (fun y => rc (cr (cr (cr (bodyOf Try.f38)))) expand_From_an.right.right.right (expand_From_m0 y) (kFinO Try.prog 84 T_expand_Fire expand_From_rr Try.f38)) (fun y => rc (cr (cl (cr (cr (bodyOf Try.f38))))) expand_From_an.right.right.left.right (expand_From_m1 y) (kSeq (fun st => rc (cr (cr (cr (bodyOf Try.f38)))) expand_From_an.right.right.right st (kFinO Try.prog 84 T_expand_Fire expand_From_rr Try.f38)) expand_From_an.right.right (kFinO Try.prog 84 T_expand_Fire expand_From_rr Try.f38))) x := by kernel_rfl
theorem expand_From_qx (n : Nat) (x : ((List D_api_Rule) × D_api_At)) : codeK Try.prog expand_From_sp n (bodyOf Try.f38) expand_From_an (start expand_From_ps x (Func.ntmps Try.f38)) (kFinO Try.prog 84 T_expand_Fire expand_From_rr Try.f38) = expand_From n x := by
  have h0 : (fun y => codeK Try.prog expand_From_sp n (cr (cr (cr (bodyOf Try.f38)))) expand_From_an.right.right.right (expand_From_m0 y) (kFinO Try.prog 84 T_expand_Fire expand_From_rr Try.f38)) = (expand_From_s0 n) := funext fun y => by
    have := expand_From_q0 n  y
    exact this
  have h1 : (fun y => codeK Try.prog expand_From_sp n (cr (cl (cr (cr (bodyOf Try.f38))))) expand_From_an.right.right.left.right (expand_From_m1 y) (kSeq (fun st => codeK Try.prog expand_From_sp n (cr (cr (cr (bodyOf Try.f38)))) expand_From_an.right.right.right st (kFinO Try.prog 84 T_expand_Fire expand_From_rr Try.f38)) expand_From_an.right.right (kFinO Try.prog 84 T_expand_Fire expand_From_rr Try.f38))) = (expand_From_s1 n (expand_From_s0 n)) := funext fun y => by
    have := expand_From_q1 n (fun st => codeK Try.prog expand_From_sp n (cr (cr (cr (bodyOf Try.f38)))) expand_From_an.right.right.right st (kFinO Try.prog 84 T_expand_Fire expand_From_rr Try.f38)) y
    rw [h0] at this; exact this
  rw [codeK_R, expand_From_ex]
  rw [h0]
  rw [h1]
  rfl
def expand_From_spec : SpO := ⟨expand_From_ps, 84, T_expand_Fire, expand_From_rr, expand_From⟩
theorem expand_From_ok : SoundX Try.prog CX 38 (.o expand_From_spec) := sound_funO (look_cons expand_lasting_first_ok (look_cons expand_lasting_last_ok (look_cons expand_lasting_fire_ok (look_cons sortFire_ok (look_cons expand_saved_ok look_nil))))) Try.func38 (by kernel_rfl) rfl expand_From_an expand_From_spec rfl rfl rfl expand_From_qx

/-! ### noonmark/expand.Instant -/
abbrev expand_Instant_ps : Ty := (.pair (.list T_api_Rule) (.pair T_expand_Fire (.pair (.int .i64) .unit)))
abbrev expand_Instant_rs : Ty := (.pair (.int .i64) .unit)
def expand_Instant_sp : Specs := look []
def expand_Instant_an : An := (.s .o (.s .o (.k [] [2,4] 1 .o .o)))
abbrev expand_Instant_t0 := Int × D_expand_Fire
def expand_Instant_m0 (z : expand_Instant_t0) : St := ⟨[.junk, .junk, .v ⟨(.int .i64), z.1⟩, .junk, .v ⟨(.ptr 0 0 T_expand_Fire), ()⟩, .junk, .junk, .junk, .junk, .junk, .junk, .junk, .junk, .junk, .junk, .junk, .junk, .junk, .junk, .junk, .junk, .junk, .junk, .junk, .junk, .junk, .junk, .junk, .junk, .junk, .junk, .junk, .junk, .junk, .junk, .junk], [some (.one ⟨T_expand_Fire, z.2⟩)]⟩
def expand_Instant_p0 (_n : Nat) (z : expand_Instant_t0) : Option (Int × Unit) :=
  some ((w64 (z.2.2.2.1 - z.1)), ())
def expand_Instant_s0 (n : Nat) (z : expand_Instant_t0) : Option (Int × Unit) := expand_Instant_p0 n z
theorem expand_Instant_e0 (n : Nat) (rc : Code → An → St → (Ex → St → Option (Int × Unit)) → Option (Int × Unit)) (z : expand_Instant_t0) : codeR rc Try.prog expand_Instant_sp n (cr (cr (cr (bodyOf Try.f39)))) expand_Instant_an.right.right.right (expand_Instant_m0 z) (kFin Try.prog expand_Instant_rs Try.f39) = expand_Instant_p0 n z := by kernel_rfl
theorem expand_Instant_q0 (n : Nat) (z : expand_Instant_t0) : codeK Try.prog expand_Instant_sp n (cr (cr (cr (bodyOf Try.f39)))) expand_Instant_an.right.right.right (expand_Instant_m0 z) (kFin Try.prog expand_Instant_rs Try.f39) = expand_Instant_s0 n z := by
  rw [codeK_R, expand_Instant_e0]
  rfl
def expand_Instant_px (_n : Nat) (k0 : expand_Instant_t0 → Option (Int × Unit)) (x : ((List D_api_Rule) × (D_expand_Fire × (Int × Unit)))) : Option (Int × Unit) :=
  bif (decide (x.2.1.1 < 0)) then
    some ((0 : Int), ())
  else
    bif (decide (x.2.1.1 ≥ (List.length x.1 : Int))) then
      some ((0 : Int), ())
    else
      bif decide (0 ≤ x.2.1.1) then
        ((x.1[Int.toNat x.2.1.1]?)).bind fun e1 =>
        bif (e1.2.2.2.2.2.1.2.1 == 0) then
          k0 ((w64 (x.2.2.1 + x.2.1.2.2.2.1)), x.2.1)
        else
          bif (e1.2.2.2.2.2.1.2.1 == 1) then
            k0 (x.2.2.1, x.2.1)
          else
            k0 ((0 : Int), x.2.1)
      else none
def expand_Instant (n : Nat) (x : ((List D_api_Rule) × (D_expand_Fire × (Int × Unit)))) : Option (Int × Unit) := expand_Instant_px n (expand_Instant_s0 n) x
theorem expand_Instant_ex (n : Nat) (rc : Code → An → St → (Ex → St → Option (Int × Unit)) → Option (Int × Unit)) (x : ((List D_api_Rule) × (D_expand_Fire × (Int × Unit)))) : codeR rc Try.prog expand_Instant_sp n (bodyOf Try.f39) expand_Instant_an (start expand_Instant_ps x (Func.ntmps Try.f39)) (kFin Try.prog expand_Instant_rs Try.f39) = expand_Instant_px n (fun y => rc (cr (cr (cr (bodyOf Try.f39)))) expand_Instant_an.right.right.right (expand_Instant_m0 y) (kFin Try.prog expand_Instant_rs Try.f39)) x := by kernel_rfl
theorem expand_Instant_qx (n : Nat) (x : ((List D_api_Rule) × (D_expand_Fire × (Int × Unit)))) : codeK Try.prog expand_Instant_sp n (bodyOf Try.f39) expand_Instant_an (start expand_Instant_ps x (Func.ntmps Try.f39)) (kFin Try.prog expand_Instant_rs Try.f39) = expand_Instant n x := by
  have h0 : (fun y => codeK Try.prog expand_Instant_sp n (cr (cr (cr (bodyOf Try.f39)))) expand_Instant_an.right.right.right (expand_Instant_m0 y) (kFin Try.prog expand_Instant_rs Try.f39)) = (expand_Instant_s0 n) := funext fun y => by
    have := expand_Instant_q0 n  y
    exact this
  rw [codeK_R, expand_Instant_ex]
  rw [h0]
  rfl
def expand_Instant_spec : Sp := ⟨expand_Instant_ps, expand_Instant_rs, expand_Instant⟩
theorem expand_Instant_ok : SoundX Try.prog CX 39 (.f expand_Instant_spec) := sound_of look_nil Try.func39 (by kernel_rfl) rfl expand_Instant_an expand_Instant_spec rfl rfl expand_Instant_qx
end Go.Proofs.YtadamegddcadcaaPi
