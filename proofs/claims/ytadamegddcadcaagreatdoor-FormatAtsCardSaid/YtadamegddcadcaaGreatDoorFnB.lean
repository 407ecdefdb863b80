import Derived.Test.YtadamegddcadcaaGreatDoorFnA
import Derived.Test.YtadamegddcadcaaGreatDoorSort
set_option linter.unusedVariables false
set_option maxRecDepth 100000
set_option maxHeartbeats 4000000
set_option linter.unusedVariables false
namespace Go.Proofs.YtadamegddcadcaaGreatDoorPi
open Go Go.Proofs
abbrev T_api_Rule : Ty := (.pair .str (.pair (.int .i64) (.pair (.int .i64) (.pair (.int .i64) (.pair T_api_Day (.pair T_api_At (.pair (.int .i64) (.pair .str .unit))))))))
abbrev D_api_Rule := (ByteArray × (Int × (Int × (Int × (D_api_Day × (D_api_At × (Int × (ByteArray × Unit))))))))
/-! ### noonmark/civil.number -/
abbrev Cvnumber_ps : Ty := T_api_Day
abbrev Cvnumber_rs : Ty := (.pair (.int .i64) .unit)
def Cvnumber_sp : Specs := look []
def Cvnumber_an : An := (.s .o (.k [] [0,1,2] 0 .o .o))
abbrev Cvnumber_R := Option (Int × Unit)
noncomputable abbrev Cvnumber_c0 : Code := (cr (cr (bodyOf Tryz.f60)))
noncomputable abbrev Cvnumber_a0 : An := Cvnumber_an.right.right
abbrev Cvnumber_t0 := Int × Int × Int
def Cvnumber_m0 (z : Cvnumber_t0) : St := ⟨(.v ⟨(.int .i64), z.1⟩ :: .v ⟨(.int .i64), z.2.1⟩ :: .v ⟨(.int .i64), z.2.2⟩ :: jk 42 []), []⟩
def Cvnumber_p0 (_n : Nat) (z : Cvnumber_t0) : Cvnumber_R :=
  let t4 := w64 (Int.tdiv (w64 (z.1 + 12000)) (400 : Int))
  let t7 := w64 ((w64 (z.1 + 12000)) - (w64 (t4 * 400)))
  some ((w64 ((w64 ((w64 ((w64 ((w64 ((w64 (t4 * 146097)) + (w64 (t7 * 365)))) + (w64 (Int.tdiv t7 (4 : Int))))) - (w64 (Int.tdiv t7 (100 : Int))))) + (w64 ((w64 ((w64 (Int.tdiv (w64 ((w64 (153 * (w64 (z.2.1 - 3)))) + 2)) (5 : Int))) + z.2.2)) - 1)))) - 5102378)), ())
def Cvnumber_s0 (n : Nat) (z : Cvnumber_t0) : Cvnumber_R := Cvnumber_p0 n z
theorem Cvnumber_e0 (n : Nat) (rc : RC Cvnumber_R) (z : Cvnumber_t0) : codeR rc Tryz.prog Cvnumber_sp n Cvnumber_c0 Cvnumber_a0 (Cvnumber_m0 z) (kFin Tryz.prog Cvnumber_rs Tryz.f60) = Cvnumber_p0 n z := by kernel_rfl
theorem Cvnumber_q0 (n : Nat) (z : Cvnumber_t0) : codeK Tryz.prog Cvnumber_sp n Cvnumber_c0 Cvnumber_a0 (Cvnumber_m0 z) (kFin Tryz.prog Cvnumber_rs Tryz.f60) = Cvnumber_s0 n z := by
  rw [codeK_R, Cvnumber_e0]
  rfl
def Cvnumber_px (_n : Nat) (k0 : Cvnumber_t0 → Cvnumber_R) (x : D_api_Day) : Cvnumber_R :=
  bif (decide (x.2.1 ≤ 2)) then
    k0 ((w64 (x.1 - 1)), (w64 (x.2.1 + 12)), x.2.2.1)
  else
    k0 (x.1, x.2.1, x.2.2.1)
def Cvnumber (n : Nat) (x : D_api_Day) : Cvnumber_R := Cvnumber_px n (Cvnumber_s0 n) x
theorem Cvnumber_ex (n : Nat) (rc : RC Cvnumber_R) (x : D_api_Day) : codeR rc Tryz.prog Cvnumber_sp n (bodyOf Tryz.f60) Cvnumber_an (start Cvnumber_ps x (Func.ntmps Tryz.f60)) (kFin Tryz.prog Cvnumber_rs Tryz.f60) = Cvnumber_px n (fun y => rc Cvnumber_c0 Cvnumber_a0 (Cvnumber_m0 y) (kFin Tryz.prog Cvnumber_rs Tryz.f60)) x := by kernel_rfl
theorem Cvnumber_qx (n : Nat) (x : D_api_Day) : codeK Tryz.prog Cvnumber_sp n (bodyOf Tryz.f60) Cvnumber_an (start Cvnumber_ps x (Func.ntmps Tryz.f60)) (kFin Tryz.prog Cvnumber_rs Tryz.f60) = Cvnumber n x := by
  have h0 : (fun y => codeK Tryz.prog Cvnumber_sp n Cvnumber_c0 Cvnumber_a0 (Cvnumber_m0 y) (kFin Tryz.prog Cvnumber_rs Tryz.f60)) = (Cvnumber_s0 n) := funext fun y => by
    have := Cvnumber_q0 n  y
    exact this
  rw [codeK_R, Cvnumber_ex]
  rw [h0]
  rfl
def Cvnumber_spec : Sp := ⟨Cvnumber_ps, Cvnumber_rs, Cvnumber⟩
theorem Cvnumber_ok : SoundX Tryz.prog CX 60 (.f Cvnumber_spec) := sound_of look_nil Tryz.func60 (by kernel_rfl) rfl Cvnumber_an Cvnumber_spec rfl rfl Cvnumber_qx

/-! ### (noonmark/expand.lasting).first -/
abbrev Elfirst_ps : Ty := (.pair T_api_Rule .unit)
abbrev Elfirst_rs : Ty := (.pair (.int .i64) .unit)
def Elfirst_sp : Specs := look []
def Elfirst_an : An := .o
abbrev Elfirst_R := Option (Int × Unit)

def Elfirst_px (_n : Nat) (x : (D_api_Rule × Unit)) : Elfirst_R :=
  some ((imax x.1.2.1 (1 : Int)), ())
def Elfirst (n : Nat) (x : (D_api_Rule × Unit)) : Elfirst_R := Elfirst_px n x
theorem Elfirst_ex (n : Nat) (rc : RC Elfirst_R) (x : (D_api_Rule × Unit)) : codeR rc Tryz.prog Elfirst_sp n (bodyOf Tryz.f85) Elfirst_an (start Elfirst_ps x (Func.ntmps Tryz.f85)) (kFin Tryz.prog Elfirst_rs Tryz.f85) = Elfirst_px n x := by kernel_rfl
theorem Elfirst_qx (n : Nat) (x : (D_api_Rule × Unit)) : codeK Tryz.prog Elfirst_sp n (bodyOf Tryz.f85) Elfirst_an (start Elfirst_ps x (Func.ntmps Tryz.f85)) (kFin Tryz.prog Elfirst_rs Tryz.f85) = Elfirst n x := by
  rw [codeK_R, Elfirst_ex]
  rfl
def Elfirst_spec : Sp := ⟨Elfirst_ps, Elfirst_rs, Elfirst⟩
theorem Elfirst_ok : SoundX Tryz.prog CX 85 (.f Elfirst_spec) := sound_of look_nil Tryz.func85 (by kernel_rfl) rfl Elfirst_an Elfirst_spec rfl rfl Elfirst_qx

/-! ### (noonmark/expand.lasting).last -/
abbrev Ellast_ps : Ty := (.pair T_api_Rule .unit)
abbrev Ellast_rs : Ty := (.pair (.int .i64) .unit)
def Ellast_sp : Specs := look []
def Ellast_an : An := .o
abbrev Ellast_R := Option (Int × Unit)

def Ellast_px (_n : Nat) (x : (D_api_Rule × Unit)) : Ellast_R :=
  some ((imin x.1.2.2.1 (9999 : Int)), ())
def Ellast (n : Nat) (x : (D_api_Rule × Unit)) : Ellast_R := Ellast_px n x
theorem Ellast_ex (n : Nat) (rc : RC Ellast_R) (x : (D_api_Rule × Unit)) : codeR rc Tryz.prog Ellast_sp n (bodyOf Tryz.f86) Ellast_an (start Ellast_ps x (Func.ntmps Tryz.f86)) (kFin Tryz.prog Ellast_rs Tryz.f86) = Ellast_px n x := by kernel_rfl
theorem Ellast_qx (n : Nat) (x : (D_api_Rule × Unit)) : codeK Tryz.prog Ellast_sp n (bodyOf Tryz.f86) Ellast_an (start Ellast_ps x (Func.ntmps Tryz.f86)) (kFin Tryz.prog Ellast_rs Tryz.f86) = Ellast n x := by
  rw [codeK_R, Ellast_ex]
  rfl
def Ellast_spec : Sp := ⟨Ellast_ps, Ellast_rs, Ellast⟩
theorem Ellast_ok : SoundX Tryz.prog CX 86 (.f Ellast_spec) := sound_of look_nil Tryz.func86 (by kernel_rfl) rfl Ellast_an Ellast_spec rfl rfl Ellast_qx

/-! ### noonmark/dayform.right -/
abbrev Dfright_ps : Ty := (.pair T_api_Day .unit)
abbrev Dfright_rs : Ty := (.pair .bool .unit)
def Dfright_sp : Specs := look []
def Dfright_an : An := (.s .o (.k [] [1] 1 (.b (.k [] [1,3] 1 .o .o)) .o))
abbrev Dfright_R := Option (Bool × Unit)
noncomputable abbrev Dfright_c0 : Code := (cr (cr (bodyOf Tryz.f81)))
noncomputable abbrev Dfright_c1 : Code := (cr (cl (cl (cr (bodyOf Tryz.f81)))))
noncomputable abbrev Dfright_a0 : An := Dfright_an.right.right
noncomputable abbrev Dfright_a1 : An := Dfright_an.right.left.left.right
noncomputable abbrev Dfright_K0 (k0 : St → Dfright_R) : Ex → St → Dfright_R := (kBlk 0 (kSeq k0 Dfright_an.right (kFin Tryz.prog Dfright_rs Tryz.f81)))
abbrev Dfright_t0 := D_api_Day
def Dfright_m0 (z : Dfright_t0) : St := ⟨(.junk :: .v ⟨(.ptr 0 0 T_api_Day), ()⟩ :: jk 45 []), [some (.one ⟨T_api_Day, z⟩)]⟩
abbrev Dfright_t1 := Bool × D_api_Day
def Dfright_m1 (z : Dfright_t1) : St := ⟨(.junk :: .v ⟨(.ptr 0 0 T_api_Day), ()⟩ :: .junk :: .v ⟨.bool, z.1⟩ :: jk 43 []), [some (.one ⟨T_api_Day, z.2⟩)]⟩
def Dfright_p0 (_n : Nat) (z : Dfright_t0) : Dfright_R :=
  bif (decide (z.2.1 ≥ 1)) then
    bif (decide (z.2.1 ≤ 31)) then
      bif (decide (z.1 > 0)) then
        some (true, ())
      else
        some ((z.2.2.1 == 0), ())
    else
      some (false, ())
  else
    some (false, ())
def Dfright_s0 (n : Nat) (z : Dfright_t0) : Dfright_R := Dfright_p0 n z
theorem Dfright_e0 (n : Nat) (rc : RC Dfright_R) (z : Dfright_t0) : codeR rc Tryz.prog Dfright_sp n Dfright_c0 Dfright_a0 (Dfright_m0 z) (kFin Tryz.prog Dfright_rs Tryz.f81) = Dfright_p0 n z := by kernel_rfl
theorem Dfright_q0 (n : Nat) (z : Dfright_t0) : codeK Tryz.prog Dfright_sp n Dfright_c0 Dfright_a0 (Dfright_m0 z) (kFin Tryz.prog Dfright_rs Tryz.f81) = Dfright_s0 n z := by
  rw [codeK_R, Dfright_e0]
  rfl
def Dfright_p1 (_n : Nat) (k0 : Dfright_t0 → Dfright_R) (z : Dfright_t1) : Dfright_R :=
  bif z.1 then
    some (false, ())
  else
    bif (z.2.1 == 1) then
      some ((z.2.2.1 == 0), ())
    else
      k0 z.2
def Dfright_s1 (n : Nat) (k0 : Dfright_t0 → Dfright_R) (z : Dfright_t1) : Dfright_R := Dfright_p1 n k0 z
theorem Dfright_e1 (n : Nat) (k0 : St → Dfright_R) (rc : RC Dfright_R) (z : Dfright_t1) : codeR rc Tryz.prog Dfright_sp n Dfright_c1 Dfright_a1 (Dfright_m1 z) (Dfright_K0 k0) = Dfright_p1 n (fun y => k0 (Dfright_m0 y)) z := by kernel_rfl
theorem Dfright_q1 (n : Nat) (k0 : St → Dfright_R) (z : Dfright_t1) : codeK Tryz.prog Dfright_sp n Dfright_c1 Dfright_a1 (Dfright_m1 z) (Dfright_K0 k0) = Dfright_s1 n (fun y => k0 (Dfright_m0 y)) z := by
  rw [codeK_R, Dfright_e1]
  rfl
def Dfright_px (_n : Nat) (k0 : Dfright_t0 → Dfright_R) (k1 : Dfright_t1 → Dfright_R) (x : (D_api_Day × Unit)) : Dfright_R :=
  bif (decide (x.1.1 < 0)) then
    k1 (true, x.1)
  else
    bif (decide (x.1.1 > 3)) then
      k1 (true, x.1)
    else
      bif (decide (x.1.2.2.1 < 0)) then
        k1 (true, x.1)
      else
        k1 ((decide (x.1.2.2.1 > 6)), x.1)
def Dfright (n : Nat) (x : (D_api_Day × Unit)) : Dfright_R := Dfright_px n (Dfright_s0 n) (Dfright_s1 n (Dfright_s0 n)) x
theorem Dfright_ex (n : Nat) (rc : RC Dfright_R) (x : (D_api_Day × Unit)) : codeR rc Tryz.prog Dfright_sp n (bodyOf Tryz.f81) Dfright_an (start Dfright_ps x (Func.ntmps Tryz.f81)) (kFin Tryz.prog Dfright_rs Tryz.f81) = Dfright_px n (fun y => rc Dfright_c0 Dfright_a0 (Dfright_m0 y) (kFin Tryz.prog Dfright_rs Tryz.f81)) (fun y => rc Dfright_c1 Dfright_a1 (Dfright_m1 y) (Dfright_K0 (fun st => rc Dfright_c0 Dfright_a0 st (kFin Tryz.prog Dfright_rs Tryz.f81)))) x := by kernel_rfl
theorem Dfright_qx (n : Nat) (x : (D_api_Day × Unit)) : codeK Tryz.prog Dfright_sp n (bodyOf Tryz.f81) Dfright_an (start Dfright_ps x (Func.ntmps Tryz.f81)) (kFin Tryz.prog Dfright_rs Tryz.f81) = Dfright n x := by
  have h0 : (fun y => codeK Tryz.prog Dfright_sp n Dfright_c0 Dfright_a0 (Dfright_m0 y) (kFin Tryz.prog Dfright_rs Tryz.f81)) = (Dfright_s0 n) := funext fun y => by
    have := Dfright_q0 n  y
    exact this
  have h1 : (fun y => codeK Tryz.prog Dfright_sp n Dfright_c1 Dfright_a1 (Dfright_m1 y) (Dfright_K0 (fun st => codeK Tryz.prog Dfright_sp n Dfright_c0 Dfright_a0 st (kFin Tryz.prog Dfright_rs Tryz.f81)))) = (Dfright_s1 n (Dfright_s0 n)) := funext fun y => by
    have := Dfright_q1 n (fun st => codeK Tryz.prog Dfright_sp n Dfright_c0 Dfright_a0 st (kFin Tryz.prog Dfright_rs Tryz.f81)) y
    rw [h0] at this; exact this
  rw [codeK_R, Dfright_ex]
  rw [h0]
  rw [h1]
  rfl
def Dfright_spec : Sp := ⟨Dfright_ps, Dfright_rs, Dfright⟩
theorem Dfright_ok : SoundX Tryz.prog CX 81 (.f Dfright_spec) := sound_of look_nil Tryz.func81 (by kernel_rfl) rfl Dfright_an Dfright_spec rfl rfl Dfright_qx

/-! ### noonmark/civil.Leap -/
abbrev CvLeap_ps : Ty := (.pair (.int .i64) .unit)
abbrev CvLeap_rs : Ty := (.pair .bool .unit)
def CvLeap_sp : Specs := look []
def CvLeap_an : An := .o
abbrev CvLeap_R := Option (Bool × Unit)

def CvLeap_px (_n : Nat) (x : (Int × Unit)) : CvLeap_R :=
  bif ((w64 (((BitVec.ofInt (IntKind.bits .i64) x.1) &&& (BitVec.ofInt (IntKind.bits .i64) (3 : Int))).toNat : Int)) == 0) then
    bif ((Int.tmod x.1 (25 : Int)) != 0) then
      some (true, ())
    else
      some (((w64 (((BitVec.ofInt (IntKind.bits .i64) x.1) &&& (BitVec.ofInt (IntKind.bits .i64) (15 : Int))).toNat : Int)) == 0), ())
  else
    some (false, ())
def CvLeap (n : Nat) (x : (Int × Unit)) : CvLeap_R := CvLeap_px n x
theorem CvLeap_ex (n : Nat) (rc : RC CvLeap_R) (x : (Int × Unit)) : codeR rc Tryz.prog CvLeap_sp n (bodyOf Tryz.f101) CvLeap_an (start CvLeap_ps x (Func.ntmps Tryz.f101)) (kFin Tryz.prog CvLeap_rs Tryz.f101) = CvLeap_px n x := by kernel_rfl
theorem CvLeap_qx (n : Nat) (x : (Int × Unit)) : codeK Tryz.prog CvLeap_sp n (bodyOf Tryz.f101) CvLeap_an (start CvLeap_ps x (Func.ntmps Tryz.f101)) (kFin Tryz.prog CvLeap_rs Tryz.f101) = CvLeap n x := by
  rw [codeK_R, CvLeap_ex]
  rfl
def CvLeap_spec : Sp := ⟨CvLeap_ps, CvLeap_rs, CvLeap⟩
theorem CvLeap_ok : SoundX Tryz.prog CX 101 (.f CvLeap_spec) := sound_of look_nil Tryz.func101 (by kernel_rfl) rfl CvLeap_an CvLeap_spec rfl rfl CvLeap_qx

/-! ### noonmark/civil.Long -/
abbrev CvLong_ps : Ty := T_api_At
abbrev CvLong_rs : Ty := (.pair (.int .i64) .unit)
def CvLong_sp : Specs := look [(101, .f CvLeap_spec)]
def CvLong_an : An := .o
abbrev CvLong_R := Option (Int × Unit)

def CvLong_px (n : Nat) (x : D_api_At) : CvLong_R :=
  bif (decide (x.2.1 < 1)) then
    some ((0 : Int), ())
  else
    bif (decide (x.2.1 > 12)) then
      some ((0 : Int), ())
    else
      bif (x.2.1 == 2) then
        ((CvLeap n (x.1, ()))).bind fun v1 =>
        bif v1.1 then
          some ((29 : Int), ())
        else
          let t2 := w64 (x.2.1 - 1)
          bif decide (0 ≤ t2) then
            (((chain 12 (.int .i64) ((31 : Int), ((28 : Int), ((31 : Int), ((30 : Int), ((31 : Int), ((30 : Int), ((31 : Int), ((31 : Int), ((30 : Int), ((31 : Int), ((30 : Int), ((31 : Int), ())))))))))))))[Int.toNat t2]?)).bind fun c3 =>
            some (c3, ())
          else none
      else
        let t4 := w64 (x.2.1 - 1)
        bif decide (0 ≤ t4) then
          (((chain 12 (.int .i64) ((31 : Int), ((28 : Int), ((31 : Int), ((30 : Int), ((31 : Int), ((30 : Int), ((31 : Int), ((31 : Int), ((30 : Int), ((31 : Int), ((30 : Int), ((31 : Int), ())))))))))))))[Int.toNat t4]?)).bind fun c5 =>
          some (c5, ())
        else none
def CvLong (n : Nat) (x : D_api_At) : CvLong_R := CvLong_px n x
theorem CvLong_ex (n : Nat) (rc : RC CvLong_R) (x : D_api_At) : codeR rc Tryz.prog CvLong_sp n (bodyOf Tryz.f82) CvLong_an (start CvLong_ps x (Func.ntmps Tryz.f82)) (kFin Tryz.prog CvLong_rs Tryz.f82) = CvLong_px n x := by kernel_rfl
theorem CvLong_qx (n : Nat) (x : D_api_At) : codeK Tryz.prog CvLong_sp n (bodyOf Tryz.f82) CvLong_an (start CvLong_ps x (Func.ntmps Tryz.f82)) (kFin Tryz.prog CvLong_rs Tryz.f82) = CvLong n x := by
  rw [codeK_R, CvLong_ex]
  rfl
def CvLong_spec : Sp := ⟨CvLong_ps, CvLong_rs, CvLong⟩
theorem CvLong_ok : SoundX Tryz.prog CX 82 (.f CvLong_spec) := sound_of (look_cons CvLeap_ok look_nil) Tryz.func82 (by kernel_rfl) rfl CvLong_an CvLong_spec rfl rfl CvLong_qx

/-! ### noonmark/civil.Right -/
abbrev CvRight_ps : Ty := T_api_Day
abbrev CvRight_rs : Ty := (.pair .bool .unit)
def CvRight_sp : Specs := look [(82, .f CvLong_spec)]
def CvRight_an : An := .o
abbrev CvRight_R := Option (Bool × Unit)

def CvRight_px (n : Nat) (x : D_api_Day) : CvRight_R :=
  bif (decide (x.1 ≥ (-9999))) then
    bif (decide (x.1 ≤ 9999)) then
      bif (decide (x.2.2.1 ≥ 1)) then
        ((CvLong n (x.1, (x.2.1, ())))).bind fun v1 =>
        some ((decide (x.2.2.1 ≤ v1.1)), ())
      else
        some (false, ())
    else
      some (false, ())
  else
    some (false, ())
def CvRight (n : Nat) (x : D_api_Day) : CvRight_R := CvRight_px n x
theorem CvRight_ex (n : Nat) (rc : RC CvRight_R) (x : D_api_Day) : codeR rc Tryz.prog CvRight_sp n (bodyOf Tryz.f102) CvRight_an (start CvRight_ps x (Func.ntmps Tryz.f102)) (kFin Tryz.prog CvRight_rs Tryz.f102) = CvRight_px n x := by kernel_rfl
theorem CvRight_qx (n : Nat) (x : D_api_Day) : codeK Tryz.prog CvRight_sp n (bodyOf Tryz.f102) CvRight_an (start CvRight_ps x (Func.ntmps Tryz.f102)) (kFin Tryz.prog CvRight_rs Tryz.f102) = CvRight n x := by
  rw [codeK_R, CvRight_ex]
  rfl
def CvRight_spec : Sp := ⟨CvRight_ps, CvRight_rs, CvRight⟩
theorem CvRight_ok : SoundX Tryz.prog CX 102 (.f CvRight_spec) := sound_of (look_cons CvLong_ok look_nil) Tryz.func102 (by kernel_rfl) rfl CvRight_an CvRight_spec rfl rfl CvRight_qx

/-! ### noonmark/civil.Days -/
abbrev CvDays_ps : Ty := T_api_Day
abbrev CvDays_rs : Ty := T_api_At
def CvDays_sp : Specs := look [(102, .f CvRight_spec), (60, .f Cvnumber_spec)]
def CvDays_an : An := .o
abbrev CvDays_R := Option D_api_At

def CvDays_px (n : Nat) (x : D_api_Day) : CvDays_R :=
  ((CvRight n (x.1, (x.2.1, (x.2.2.1, ()))))).bind fun v1 =>
  bif (!v1.1) then
    some ((0 : Int), ((6 : Int), ()))
  else
    ((Cvnumber n (x.1, (x.2.1, (x.2.2.1, ()))))).bind fun v2 =>
    some (v2.1, ((0 : Int), ()))
def CvDays (n : Nat) (x : D_api_Day) : CvDays_R := CvDays_px n x
theorem CvDays_ex (n : Nat) (rc : RC CvDays_R) (x : D_api_Day) : codeR rc Tryz.prog CvDays_sp n (bodyOf Tryz.f83) CvDays_an (start CvDays_ps x (Func.ntmps Tryz.f83)) (kFin Tryz.prog CvDays_rs Tryz.f83) = CvDays_px n x := by kernel_rfl
theorem CvDays_qx (n : Nat) (x : D_api_Day) : codeK Tryz.prog CvDays_sp n (bodyOf Tryz.f83) CvDays_an (start CvDays_ps x (Func.ntmps Tryz.f83)) (kFin Tryz.prog CvDays_rs Tryz.f83) = CvDays n x := by
  rw [codeK_R, CvDays_ex]
  rfl
def CvDays_spec : Sp := ⟨CvDays_ps, CvDays_rs, CvDays⟩
theorem CvDays_ok : SoundX Tryz.prog CX 83 (.f CvDays_spec) := sound_of (look_cons CvRight_ok (look_cons Cvnumber_ok look_nil)) Tryz.func83 (by kernel_rfl) rfl CvDays_an CvDays_spec rfl rfl CvDays_qx

/-! ### noonmark/civil.Week -/
abbrev CvWeek_ps : Ty := (.pair (.int .i64) .unit)
abbrev CvWeek_rs : Ty := (.pair (.int .i64) .unit)
def CvWeek_sp : Specs := look []
def CvWeek_an : An := (.s .o (.s .o (.k [] [3] 0 .o .o)))
abbrev CvWeek_R := Option (Int × Unit)
noncomputable abbrev CvWeek_c0 : Code := (cr (cr (cr (bodyOf Tryz.f84))))
noncomputable abbrev CvWeek_a0 : An := CvWeek_an.right.right.right
abbrev CvWeek_t0 := Int
def CvWeek_m0 (z : CvWeek_t0) : St := ⟨(jk 3 (.v ⟨(.int .i64), z⟩ :: jk 9 [])), []⟩
def CvWeek_p0 (_n : Nat) (z : CvWeek_t0) : CvWeek_R :=
  some (z, ())
def CvWeek_s0 (n : Nat) (z : CvWeek_t0) : CvWeek_R := CvWeek_p0 n z
theorem CvWeek_e0 (n : Nat) (rc : RC CvWeek_R) (z : CvWeek_t0) : codeR rc Tryz.prog CvWeek_sp n CvWeek_c0 CvWeek_a0 (CvWeek_m0 z) (kFin Tryz.prog CvWeek_rs Tryz.f84) = CvWeek_p0 n z := by kernel_rfl
theorem CvWeek_q0 (n : Nat) (z : CvWeek_t0) : codeK Tryz.prog CvWeek_sp n CvWeek_c0 CvWeek_a0 (CvWeek_m0 z) (kFin Tryz.prog CvWeek_rs Tryz.f84) = CvWeek_s0 n z := by
  rw [codeK_R, CvWeek_e0]
  rfl
def CvWeek_px (_n : Nat) (k0 : CvWeek_t0 → CvWeek_R) (x : (Int × Unit)) : CvWeek_R :=
  let t3 := Int.tmod (w64 ((Int.tmod x.1 (7 : Int)) + 4)) (7 : Int)
  bif (decide (t3 < 0)) then
    k0 (w64 (t3 + 7))
  else
    k0 t3
def CvWeek (n : Nat) (x : (Int × Unit)) : CvWeek_R := CvWeek_px n (CvWeek_s0 n) x
theorem CvWeek_ex (n : Nat) (rc : RC CvWeek_R) (x : (Int × Unit)) : codeR rc Tryz.prog CvWeek_sp n (bodyOf Tryz.f84) CvWeek_an (start CvWeek_ps x (Func.ntmps Tryz.f84)) (kFin Tryz.prog CvWeek_rs Tryz.f84) = CvWeek_px n (fun y => rc CvWeek_c0 CvWeek_a0 (CvWeek_m0 y) (kFin Tryz.prog CvWeek_rs Tryz.f84)) x := by kernel_rfl
theorem CvWeek_qx (n : Nat) (x : (Int × Unit)) : codeK Tryz.prog CvWeek_sp n (bodyOf Tryz.f84) CvWeek_an (start CvWeek_ps x (Func.ntmps Tryz.f84)) (kFin Tryz.prog CvWeek_rs Tryz.f84) = CvWeek n x := by
  have h0 : (fun y => codeK Tryz.prog CvWeek_sp n CvWeek_c0 CvWeek_a0 (CvWeek_m0 y) (kFin Tryz.prog CvWeek_rs Tryz.f84)) = (CvWeek_s0 n) := funext fun y => by
    have := CvWeek_q0 n  y
    exact this
  rw [codeK_R, CvWeek_ex]
  rw [h0]
  rfl
def CvWeek_spec : Sp := ⟨CvWeek_ps, CvWeek_rs, CvWeek⟩
theorem CvWeek_ok : SoundX Tryz.prog CX 84 (.f CvWeek_spec) := sound_of look_nil Tryz.func84 (by kernel_rfl) rfl CvWeek_an CvWeek_spec rfl rfl CvWeek_qx

/-! ### noonmark/dayform.Of -/
abbrev DfOf_ps : Ty := (.pair T_api_Day T_api_At)
abbrev DfOf_rs : Ty := T_api_At
def DfOf_sp : Specs := look [(81, .f Dfright_spec), (82, .f CvLong_spec), (83, .f CvDays_spec), (84, .f CvWeek_spec)]
def DfOf_an : An := (.s .o (.s .o (.s .o (.k [] [1,2,3,8] 1 .o .o))))
abbrev DfOf_R := Option D_api_At
noncomputable abbrev DfOf_c0 : Code := (cr (cr (cr (cr (bodyOf Tryz.f61)))))
noncomputable abbrev DfOf_a0 : An := DfOf_an.right.right.right.right
abbrev DfOf_t0 := Int × Int × Int × D_api_Day
def DfOf_m0 (z : DfOf_t0) : St := ⟨(.junk :: .v ⟨(.int .i64), z.1⟩ :: .v ⟨(.int .i64), z.2.1⟩ :: .v ⟨(.ptr 0 0 T_api_Day), ()⟩ :: jk 4 (.v ⟨(.int .i64), z.2.2.1⟩ :: jk 46 [])), [some (.one ⟨T_api_Day, z.2.2.2⟩)]⟩
def DfOf_p0 (n : Nat) (z : DfOf_t0) : DfOf_R :=
  ((CvDays n (z.1, (z.2.1, (z.2.2.1, ()))))).bind fun v3 =>
  bif (v3.2.1 != 0) then
    some ((0 : Int), (v3.2.1, ()))
  else
    ((CvWeek n (v3.1, ()))).bind fun v4 =>
    let t7 := Int.tmod (w64 ((w64 (z.2.2.2.2.2.1 - v4.1)) + 7)) (7 : Int)
    bif (z.2.2.2.1 == 0) then
      some (v3.1, ((0 : Int), ()))
    else
      bif (z.2.2.2.1 == 2) then
        some ((w64 (v3.1 + t7)), ((0 : Int), ()))
      else
        some ((w64 (v3.1 - (Int.tmod (w64 (7 - t7)) (7 : Int)))), ((0 : Int), ()))
def DfOf_s0 (n : Nat) (z : DfOf_t0) : DfOf_R := DfOf_p0 n z
theorem DfOf_e0 (n : Nat) (rc : RC DfOf_R) (z : DfOf_t0) : codeR rc Tryz.prog DfOf_sp n DfOf_c0 DfOf_a0 (DfOf_m0 z) (kFin Tryz.prog DfOf_rs Tryz.f61) = DfOf_p0 n z := by kernel_rfl
theorem DfOf_q0 (n : Nat) (z : DfOf_t0) : codeK Tryz.prog DfOf_sp n DfOf_c0 DfOf_a0 (DfOf_m0 z) (kFin Tryz.prog DfOf_rs Tryz.f61) = DfOf_s0 n z := by
  rw [codeK_R, DfOf_e0]
  rfl
def DfOf_px (n : Nat) (k0 : DfOf_t0 → DfOf_R) (x : (D_api_Day × D_api_At)) : DfOf_R :=
  ((Dfright n (x.1, ()))).bind fun v1 =>
  bif (!v1.1) then
    some ((0 : Int), ((1 : Int), ()))
  else
    bif (x.1.1 == 1) then
      ((CvLong n (x.2.1, (x.2.2.1, ())))).bind fun v2 =>
      k0 (x.2.1, x.2.2.1, v2.1, x.1)
    else
      k0 (x.2.1, x.2.2.1, x.1.2.1, x.1)
def DfOf (n : Nat) (x : (D_api_Day × D_api_At)) : DfOf_R := DfOf_px n (DfOf_s0 n) x
theorem DfOf_ex (n : Nat) (rc : RC DfOf_R) (x : (D_api_Day × D_api_At)) : codeR rc Tryz.prog DfOf_sp n (bodyOf Tryz.f61) DfOf_an (start DfOf_ps x (Func.ntmps Tryz.f61)) (kFin Tryz.prog DfOf_rs Tryz.f61) = DfOf_px n (fun y => rc DfOf_c0 DfOf_a0 (DfOf_m0 y) (kFin Tryz.prog DfOf_rs Tryz.f61)) x := by kernel_rfl
theorem DfOf_qx (n : Nat) (x : (D_api_Day × D_api_At)) : codeK Tryz.prog DfOf_sp n (bodyOf Tryz.f61) DfOf_an (start DfOf_ps x (Func.ntmps Tryz.f61)) (kFin Tryz.prog DfOf_rs Tryz.f61) = DfOf n x := by
  have h0 : (fun y => codeK Tryz.prog DfOf_sp n DfOf_c0 DfOf_a0 (DfOf_m0 y) (kFin Tryz.prog DfOf_rs Tryz.f61)) = (DfOf_s0 n) := funext fun y => by
    have := DfOf_q0 n  y
    exact this
  rw [codeK_R, DfOf_ex]
  rw [h0]
  rfl
def DfOf_spec : Sp := ⟨DfOf_ps, DfOf_rs, DfOf⟩
theorem DfOf_ok : SoundX Tryz.prog CX 61 (.f DfOf_spec) := sound_of (look_cons Dfright_ok (look_cons CvLong_ok (look_cons CvDays_ok (look_cons CvWeek_ok look_nil)))) Tryz.func61 (by kernel_rfl) rfl DfOf_an DfOf_spec rfl rfl DfOf_qx

/-! ### (noonmark/expand.lasting).fire -/
abbrev Elfire_ps : Ty := (.pair T_api_Rule T_api_At)
abbrev Elfire_rs : Ty := (.pair T_EFire (.pair .bool .unit))
def Elfire_sp : Specs := look [(61, .f DfOf_spec), (85, .f Elfirst_spec), (86, .f Ellast_spec)]
def Elfire_an : An := .o
abbrev Elfire_R := Option (D_EFire × (Bool × Unit))

def Elfire_px (n : Nat) (x : (D_api_Rule × D_api_At)) : Elfire_R :=
  ((Elfirst n (x.1, ()))).bind fun v1 =>
  bif (decide (x.2.2.1 < v1.1)) then
    some (((0 : Int), ((0 : Int), ((0 : Int), ((0 : Int), ())))), (false, ()))
  else
    ((Ellast n (x.1, ()))).bind fun v2 =>
    bif (decide (x.2.2.1 > v2.1)) then
      some (((0 : Int), ((0 : Int), ((0 : Int), ((0 : Int), ())))), (false, ()))
    else
      ((DfOf n (x.1.2.2.2.2.1, (x.2.2.1, (x.1.2.2.2.1, ()))))).bind fun v3 =>
      some ((x.2.1, (x.2.2.1, ((w64 ((w64 (v3.1 * 86400)) + x.1.2.2.2.2.2.1.1)), ((0 : Int), ())))), ((v3.2.1 == 0), ()))
def Elfire (n : Nat) (x : (D_api_Rule × D_api_At)) : Elfire_R := Elfire_px n x
theorem Elfire_ex (n : Nat) (rc : RC Elfire_R) (x : (D_api_Rule × D_api_At)) : codeR rc Tryz.prog Elfire_sp n (bodyOf Tryz.f87) Elfire_an (start Elfire_ps x (Func.ntmps Tryz.f87)) (kFin Tryz.prog Elfire_rs Tryz.f87) = Elfire_px n x := by kernel_rfl
theorem Elfire_qx (n : Nat) (x : (D_api_Rule × D_api_At)) : codeK Tryz.prog Elfire_sp n (bodyOf Tryz.f87) Elfire_an (start Elfire_ps x (Func.ntmps Tryz.f87)) (kFin Tryz.prog Elfire_rs Tryz.f87) = Elfire n x := by
  rw [codeK_R, Elfire_ex]
  rfl
def Elfire_spec : Sp := ⟨Elfire_ps, Elfire_rs, Elfire⟩
theorem Elfire_ok : SoundX Tryz.prog CX 87 (.f Elfire_spec) := sound_of (look_cons DfOf_ok (look_cons Elfirst_ok (look_cons Ellast_ok look_nil))) Tryz.func87 (by kernel_rfl) rfl Elfire_an Elfire_spec rfl rfl Elfire_qx

/-! ### noonmark/expand.Letter -/
abbrev ELetter_ps : Ty := (.pair (.list T_api_Rule) .unit)
abbrev ELetter_rs : Ty := (.pair .str .unit)
def ELetter_sp : Specs := look [(85, .f Elfirst_spec), (86, .f Ellast_spec), (87, .f Elfire_spec), (88, .f Eorder_spec)]
def ELetter_an : An := (.s .o (.s .o (.k [] [0,3] 0 (.k [] [0,3,10,11,12] 0 .o (.b (.l [] [0,3,10,11,12] 0 (.s .o (.s .o (.k [(3, (.opt T_EFire), 0)] [0,3,10,11,12] 0 (.b (.s .o (.s .o (.k [] [0,3,4,5,6,7,10,11,12] 2 .o (.b (.l [] [0,3,4,5,6,7,10,11,12] 2 .o)))))) .o)))))) .o)))
abbrev ELetter_R := Option (ByteArray × Unit)
noncomputable abbrev ELetter_c0 : Code := (cr (cr (cr (bodyOf Tryz.f62))))
noncomputable abbrev ELetter_c1 : Code := (cr (cr (cr (cl (cl (cr (cl (cr (cr (bodyOf Tryz.f62))))))))))
noncomputable abbrev ELetter_c2 : Code := (cl (cl (cr (cr (cr (cl (cl (cr (cr (cl (cl (cr (cl (cr (cr (bodyOf Tryz.f62))))))))))))))))
noncomputable abbrev ELetter_c3 : Code := (cr (cr (cr (cl (cl (cr (cr (cl (cl (cr (cl (cr (cr (bodyOf Tryz.f62))))))))))))))
noncomputable abbrev ELetter_c4 : Code := (cl (cl (cr (cl (cr (cr (bodyOf Tryz.f62)))))))
noncomputable abbrev ELetter_c5 : Code := (cr (cl (cr (cr (bodyOf Tryz.f62)))))
noncomputable abbrev ELetter_a0 : An := ELetter_an.right.right.right
noncomputable abbrev ELetter_a1 : An := ELetter_an.right.right.left.right.left.left.right.right.right
noncomputable abbrev ELetter_a2 : An := ELetter_an.right.right
noncomputable abbrev ELetter_a3 : An := ELetter_an.right.right.left.right.left
noncomputable abbrev ELetter_a4 : An := ELetter_an.right.right.left.right.left.left.right.right.left.left.right.right.right.left.left
noncomputable abbrev ELetter_a5 : An := ELetter_an.right.right.left.right.left.left.right.right
noncomputable abbrev ELetter_a6 : An := ELetter_an.right.right.left.right.left.left.right.right.left.left.right.right.right.left
noncomputable abbrev ELetter_a7 : An := ELetter_an.right.right.left.right.left.left.right.right.left.left.right.right.right
noncomputable abbrev ELetter_a8 : An := ELetter_an.right.right.left.right.left.left
noncomputable abbrev ELetter_a9 : An := ELetter_an.right.right.left.right
noncomputable abbrev ELetter_K0 (r2 k0 : St → ELetter_R) : Ex → St → ELetter_R := (kSeq r2 ELetter_a3 (kBlk 0 (kSeq k0 ELetter_a2 (kFin Tryz.prog ELetter_rs Tryz.f62))))
noncomputable abbrev ELetter_K1 (r5 k3 r2 k0 : St → ELetter_R) : Ex → St → ELetter_R := (kSeq r5 ELetter_a6 (kBlk 2 (kBlk 1 (kSeq k3 ELetter_a5 (kSeq r2 ELetter_a3 (kBlk 0 (kSeq k0 ELetter_a2 (kFin Tryz.prog ELetter_rs Tryz.f62))))))))
noncomputable abbrev ELetter_K2 (k3 r2 k0 : St → ELetter_R) : Ex → St → ELetter_R := (kBlk 1 (kSeq k3 ELetter_a5 (kSeq r2 ELetter_a3 (kBlk 0 (kSeq k0 ELetter_a2 (kFin Tryz.prog ELetter_rs Tryz.f62))))))
noncomputable abbrev ELetter_K3 (r2 k0 : St → ELetter_R) : Ex → St → ELetter_R := (kSeq r2 ELetter_a3 (kBlk 0 (kSeq k0 ELetter_a2 (kFin Tryz.prog ELetter_rs Tryz.f62))))
noncomputable abbrev ELetter_K4 (k0 : St → ELetter_R) : Ex → St → ELetter_R := (kSeq k0 ELetter_a2 (kFin Tryz.prog ELetter_rs Tryz.f62))
abbrev ELetter_t0 := (List D_api_Rule) × (Option D_EFire)
def ELetter_m0 (z : ELetter_t0) : St := ⟨(.v ⟨(.list T_api_Rule), z.1⟩ :: .junk :: .junk :: .v ⟨(.opt T_EFire), z.2⟩ :: jk 61 []), []⟩
abbrev ELetter_t1 := (List D_api_Rule) × (Option D_EFire) × (List D_api_Rule) × Int × Int
def ELetter_m1 (z : ELetter_t1) : St := ⟨(.v ⟨(.list T_api_Rule), z.1⟩ :: .junk :: .junk :: .v ⟨(.opt T_EFire), z.2.1⟩ :: jk 6 (.v ⟨(.list T_api_Rule), z.2.2.1⟩ :: .v ⟨(.int .i64), z.2.2.2.1⟩ :: .v ⟨(.int .i64), z.2.2.2.2⟩ :: jk 52 [])), []⟩
abbrev ELetter_t2 := (List D_api_Rule) × (Option D_EFire) × (List D_api_Rule) × Int × Int
def ELetter_m2 (z : ELetter_t2) : St := ⟨(.v ⟨(.list T_api_Rule), z.1⟩ :: .junk :: .junk :: .v ⟨(.opt T_EFire), z.2.1⟩ :: jk 6 (.v ⟨(.list T_api_Rule), z.2.2.1⟩ :: .v ⟨(.int .i64), z.2.2.2.1⟩ :: .v ⟨(.int .i64), z.2.2.2.2⟩ :: jk 52 [])), []⟩
abbrev ELetter_t3 := (List D_api_Rule) × (Option D_EFire) × (List D_api_Rule) × Int × Int
def ELetter_m3 (z : ELetter_t3) : St := ⟨(.v ⟨(.list T_api_Rule), z.1⟩ :: .junk :: .junk :: .v ⟨(.opt T_EFire), z.2.1⟩ :: jk 6 (.v ⟨(.list T_api_Rule), z.2.2.1⟩ :: .v ⟨(.int .i64), z.2.2.2.1⟩ :: .v ⟨(.int .i64), z.2.2.2.2⟩ :: jk 52 [])), []⟩
abbrev ELetter_t4 := (List D_api_Rule) × (Option D_EFire) × Int × Int × (List D_api_Rule) × Int × Int × D_api_Rule × D_api_Rule
def ELetter_m4 (z : ELetter_t4) : St := ⟨(.v ⟨(.list T_api_Rule), z.1⟩ :: .junk :: .junk :: .v ⟨(.opt T_EFire), z.2.1⟩ :: .v ⟨(.int .i64), z.2.2.1⟩ :: .v ⟨(.ptr 0 0 T_api_Rule), ()⟩ :: .v ⟨(.ptr 1 0 T_api_Rule), ()⟩ :: .v ⟨(.int .i64), z.2.2.2.1⟩ :: .junk :: .junk :: .v ⟨(.list T_api_Rule), z.2.2.2.2.1⟩ :: .v ⟨(.int .i64), z.2.2.2.2.2.1⟩ :: .v ⟨(.int .i64), z.2.2.2.2.2.2.1⟩ :: jk 52 []), [some (.one ⟨T_api_Rule, z.2.2.2.2.2.2.2.1⟩), some (.one ⟨T_api_Rule, z.2.2.2.2.2.2.2.2⟩)]⟩
abbrev ELetter_t5 := (List D_api_Rule) × (Option D_EFire) × Int × Int × (List D_api_Rule) × Int × Int × D_api_Rule × D_api_Rule
def ELetter_m5 (z : ELetter_t5) : St := ⟨(.v ⟨(.list T_api_Rule), z.1⟩ :: .junk :: .junk :: .v ⟨(.opt T_EFire), z.2.1⟩ :: .v ⟨(.int .i64), z.2.2.1⟩ :: .v ⟨(.ptr 0 0 T_api_Rule), ()⟩ :: .v ⟨(.ptr 1 0 T_api_Rule), ()⟩ :: .v ⟨(.int .i64), z.2.2.2.1⟩ :: .junk :: .junk :: .v ⟨(.list T_api_Rule), z.2.2.2.2.1⟩ :: .v ⟨(.int .i64), z.2.2.2.2.2.1⟩ :: .v ⟨(.int .i64), z.2.2.2.2.2.2.1⟩ :: jk 52 []), [some (.one ⟨T_api_Rule, z.2.2.2.2.2.2.2.1⟩), some (.one ⟨T_api_Rule, z.2.2.2.2.2.2.2.2⟩)]⟩
def ELetter_p0 (_n : Nat) (z : ELetter_t0) : ELetter_R :=
  bif (Option.isNone z.2) then
    some ((⟨#[]⟩ : ByteArray), ())
  else
    (z.2).bind fun q3 =>
    bif decide (0 ≤ q3.1) then
      ((z.1[Int.toNat q3.1]?)).bind fun e4 =>
      some (e4.2.2.2.2.2.2.2.1, ())
    else none
def ELetter_s0 (n : Nat) (z : ELetter_t0) : ELetter_R := ELetter_p0 n z
theorem ELetter_e0 (n : Nat) (rc : RC ELetter_R) (z : ELetter_t0) : codeR rc Tryz.prog ELetter_sp n ELetter_c0 ELetter_a0 (ELetter_m0 z) (kFin Tryz.prog ELetter_rs Tryz.f62) = ELetter_p0 n z := by kernel_rfl
theorem ELetter_q0 (n : Nat) (z : ELetter_t0) : codeK Tryz.prog ELetter_sp n ELetter_c0 ELetter_a0 (ELetter_m0 z) (kFin Tryz.prog ELetter_rs Tryz.f62) = ELetter_s0 n z := by
  rw [codeK_R, ELetter_e0]
  rfl
def ELetter_p3 (_n : Nat) (_k0 : ELetter_t0 → ELetter_R) (r2 : ELetter_t2 → ELetter_R) (z : ELetter_t3) : ELetter_R :=
  r2 (z.1, z.2.1, z.2.2.1, z.2.2.2.1, (w64 (z.2.2.2.2 + 1)))
def ELetter_s3 (n : Nat) (k0 : ELetter_t0 → ELetter_R) (r2 : ELetter_t2 → ELetter_R) (z : ELetter_t3) : ELetter_R := ELetter_p3 n k0 r2 z
theorem ELetter_e3 (n : Nat) (k0 : St → ELetter_R) (r2 : St → ELetter_R) (rc : RC ELetter_R) (z : ELetter_t3) : codeR rc Tryz.prog ELetter_sp n ELetter_c1 ELetter_a1 (ELetter_m3 z) (ELetter_K0 r2 k0) = ELetter_p3 n (fun y => k0 (ELetter_m0 y)) (fun y => r2 (ELetter_m2 y)) z := by kernel_rfl
theorem ELetter_q3 (n : Nat) (k0 : St → ELetter_R) (r2 : St → ELetter_R) (z : ELetter_t3) : codeK Tryz.prog ELetter_sp n ELetter_c1 ELetter_a1 (ELetter_m3 z) (ELetter_K0 r2 k0) = ELetter_s3 n (fun y => k0 (ELetter_m0 y)) (fun y => r2 (ELetter_m2 y)) z := by
  rw [codeK_R, ELetter_e3]
  rfl
def ELetter_p5 (n : Nat) (_k0 : ELetter_t0 → ELetter_R) (_r2 : ELetter_t2 → ELetter_R) (k3 : ELetter_t3 → ELetter_R) (r5 : ELetter_t5 → ELetter_R) (z : ELetter_t5) : ELetter_R :=
  ((Ellast n (z.2.2.2.2.2.2.2.2, ()))).bind fun v5 =>
  ((Elfirst n (z.2.2.2.2.2.2.2.2, ()))).bind fun v6 =>
  bif (decide (z.2.2.2.1 ≤ (imin v5.1 (w64 (v6.1 + 8))))) then
    bif (z.2.2.2.2.2.2.2.1.2.2.2.2.2.2.1 == 0) then
      ((Elfire n (z.2.2.2.2.2.2.2.2, (z.2.2.1, (z.2.2.2.1, ()))))).bind fun v9 =>
      bif (!v9.2.1) then
        r5 (z.1, z.2.1, z.2.2.1, (w64 (z.2.2.2.1 + 1)), z.2.2.2.2.1, z.2.2.2.2.2.1, z.2.2.2.2.2.2.1, z.2.2.2.2.2.2.2.1, z.2.2.2.2.2.2.2.2)
      else
        bif (Option.isNone z.2.1) then
          k3 (z.1, (some v9.1), z.2.2.2.2.1, z.2.2.2.2.2.1, z.2.2.2.2.2.2.1)
        else
          (z.2.1).bind fun q11 =>
          ((Eorder n (v9.1, (q11, ())))).bind fun v12 =>
          bif (decide (v12.1 < 0)) then
            k3 (z.1, (some v9.1), z.2.2.2.2.1, z.2.2.2.2.2.1, z.2.2.2.2.2.2.1)
          else
            k3 (z.1, z.2.1, z.2.2.2.2.1, z.2.2.2.2.2.1, z.2.2.2.2.2.2.1)
    else
      k3 (z.1, z.2.1, z.2.2.2.2.1, z.2.2.2.2.2.1, z.2.2.2.2.2.2.1)
  else
    k3 (z.1, z.2.1, z.2.2.2.2.1, z.2.2.2.2.2.1, z.2.2.2.2.2.2.1)
def ELetter_s5 (n : Nat) (k0 : ELetter_t0 → ELetter_R) (r2 : ELetter_t2 → ELetter_R) (k3 : ELetter_t3 → ELetter_R) (r5 : ELetter_t5 → ELetter_R) (z : ELetter_t5) : ELetter_R := ELetter_p5 n k0 r2 k3 r5 z
theorem ELetter_e5 (n : Nat) (k0 : St → ELetter_R) (r2 : St → ELetter_R) (k3 : St → ELetter_R) (r5 : St → ELetter_R) (rc : RC ELetter_R) (z : ELetter_t5) : codeR rc Tryz.prog ELetter_sp n ELetter_c2 ELetter_a4 (ELetter_m5 z) (ELetter_K1 r5 k3 r2 k0) = ELetter_p5 n (fun y => k0 (ELetter_m0 y)) (fun y => r2 (ELetter_m2 y)) (fun y => k3 (ELetter_m3 y)) (fun y => r5 (ELetter_m5 y)) z := by kernel_rfl
theorem ELetter_q5 (n : Nat) (k0 : St → ELetter_R) (r2 : St → ELetter_R) (k3 : St → ELetter_R) (r5 : St → ELetter_R) (z : ELetter_t5) : codeK Tryz.prog ELetter_sp n ELetter_c2 ELetter_a4 (ELetter_m5 z) (ELetter_K1 r5 k3 r2 k0) = ELetter_s5 n (fun y => k0 (ELetter_m0 y)) (fun y => r2 (ELetter_m2 y)) (fun y => k3 (ELetter_m3 y)) (fun y => r5 (ELetter_m5 y)) z := by
  rw [codeK_R, ELetter_e5]
  rfl
def ELetter_s4 (n : Nat) (k0 : ELetter_t0 → ELetter_R) (r2 : ELetter_t2 → ELetter_R) (k3 : ELetter_t3 → ELetter_R) (z : ELetter_t4) : ELetter_R :=
  rounds (fun r5 x' => ELetter_s5 n k0 r2 k3 r5 x') n (z.1, z.2.1, z.2.2.1, z.2.2.2.1, z.2.2.2.2.1, z.2.2.2.2.2.1, z.2.2.2.2.2.2.1, z.2.2.2.2.2.2.2.1, z.2.2.2.2.2.2.2.2)
theorem ELetter_q4 (n : Nat) (k0 : St → ELetter_R) (r2 : St → ELetter_R) (k3 : St → ELetter_R) (z : ELetter_t4) : codeK Tryz.prog ELetter_sp n ELetter_c3 ELetter_a7 (ELetter_m4 z) (ELetter_K2 k3 r2 k0) = ELetter_s4 n (fun y => k0 (ELetter_m0 y)) (fun y => r2 (ELetter_m2 y)) (fun y => k3 (ELetter_m3 y)) z :=
  Eq.trans (b := rounds (fun r5 st => codeK Tryz.prog ELetter_sp n ELetter_c2 ELetter_a4 st (ELetter_K1 r5 k3 r2 k0)) n (ELetter_m5 (z.1, z.2.1, z.2.2.1, z.2.2.2.1, z.2.2.2.2.1, z.2.2.2.2.2.1, z.2.2.2.2.2.2.1, z.2.2.2.2.2.2.2.1, z.2.2.2.2.2.2.2.2))) (by kernel_rfl) (rounds_mk ELetter_m5 (fun r5 x' => by
    have := (ELetter_q5 n k0 r2 k3 r5 x')
    exact this) n _)
def ELetter_p2 (n : Nat) (k0 : ELetter_t0 → ELetter_R) (_r2 : ELetter_t2 → ELetter_R) (k3 : ELetter_t3 → ELetter_R) (k4 : ELetter_t4 → ELetter_R) (z : ELetter_t2) : ELetter_R :=
  bif (decide (z.2.2.2.2 < z.2.2.2.1)) then
    bif decide (0 ≤ z.2.2.2.2) then
      ((z.2.2.1[Int.toNat z.2.2.2.2]?)).bind fun e1 =>
      ((Elfirst n (e1, ()))).bind fun v2 =>
      k4 (z.1, z.2.1, z.2.2.2.2, v2.1, z.2.2.1, z.2.2.2.1, z.2.2.2.2, e1, e1)
    else none
  else
    k0 (z.1, z.2.1)
def ELetter_s2 (n : Nat) (k0 : ELetter_t0 → ELetter_R) (r2 : ELetter_t2 → ELetter_R) (z : ELetter_t2) : ELetter_R := ELetter_p2 n k0 r2 (ELetter_s3 n k0 r2) (ELetter_s4 n k0 r2 (ELetter_s3 n k0 r2)) z
theorem ELetter_e2 (n : Nat) (k0 : St → ELetter_R) (r2 : St → ELetter_R) (rc : RC ELetter_R) (z : ELetter_t2) : codeR rc Tryz.prog ELetter_sp n ELetter_c4 ELetter_a8 (ELetter_m2 z) (ELetter_K3 r2 k0) = ELetter_p2 n (fun y => k0 (ELetter_m0 y)) (fun y => r2 (ELetter_m2 y)) (fun y => rc ELetter_c1 ELetter_a1 (ELetter_m3 y) (ELetter_K0 r2 k0)) (fun y => rc ELetter_c3 ELetter_a7 (ELetter_m4 y) (ELetter_K2 (fun st => rc ELetter_c1 ELetter_a1 st (ELetter_K0 r2 k0)) r2 k0)) z := by kernel_rfl
theorem ELetter_q2 (n : Nat) (k0 : St → ELetter_R) (r2 : St → ELetter_R) (z : ELetter_t2) : codeK Tryz.prog ELetter_sp n ELetter_c4 ELetter_a8 (ELetter_m2 z) (ELetter_K3 r2 k0) = ELetter_s2 n (fun y => k0 (ELetter_m0 y)) (fun y => r2 (ELetter_m2 y)) z := by
  have h3 : (fun y => codeK Tryz.prog ELetter_sp n ELetter_c1 ELetter_a1 (ELetter_m3 y) (ELetter_K0 r2 k0)) = (ELetter_s3 n (fun y => k0 (ELetter_m0 y)) (fun y => r2 (ELetter_m2 y))) := funext fun y => by
    have := ELetter_q3 n k0 r2 y
    exact this
  have h4 : (fun y => codeK Tryz.prog ELetter_sp n ELetter_c3 ELetter_a7 (ELetter_m4 y) (ELetter_K2 (fun st => codeK Tryz.prog ELetter_sp n ELetter_c1 ELetter_a1 st (ELetter_K0 r2 k0)) r2 k0)) = (ELetter_s4 n (fun y => k0 (ELetter_m0 y)) (fun y => r2 (ELetter_m2 y)) (ELetter_s3 n (fun y => k0 (ELetter_m0 y)) (fun y => r2 (ELetter_m2 y)))) := funext fun y => by
    have := ELetter_q4 n k0 r2 (fun st => codeK Tryz.prog ELetter_sp n ELetter_c1 ELetter_a1 st (ELetter_K0 r2 k0)) y
    rw [h3] at this; exact this
  rw [codeK_R, ELetter_e2]
  rw [h3]
  rw [h4]
  rfl
def ELetter_s1 (n : Nat) (k0 : ELetter_t0 → ELetter_R) (z : ELetter_t1) : ELetter_R :=
  rounds (fun r2 x' => ELetter_s2 n k0 r2 x') n (z.1, z.2.1, z.2.2.1, z.2.2.2.1, z.2.2.2.2)
theorem ELetter_q1 (n : Nat) (k0 : St → ELetter_R) (z : ELetter_t1) : codeK Tryz.prog ELetter_sp n ELetter_c5 ELetter_a9 (ELetter_m1 z) (ELetter_K4 k0) = ELetter_s1 n (fun y => k0 (ELetter_m0 y)) z :=
  Eq.trans (b := rounds (fun r2 st => codeK Tryz.prog ELetter_sp n ELetter_c4 ELetter_a8 st (ELetter_K3 r2 k0)) n (ELetter_m2 (z.1, z.2.1, z.2.2.1, z.2.2.2.1, z.2.2.2.2))) (by kernel_rfl) (rounds_mk ELetter_m2 (fun r2 x' => by
    have := (ELetter_q2 n k0 r2 x')
    exact this) n _)
def ELetter_px (_n : Nat) (k0 : ELetter_t0 → ELetter_R) (k1 : ELetter_t1 → ELetter_R) (x : ((List D_api_Rule) × Unit)) : ELetter_R :=
  k1 (x.1, (none : Option D_EFire), x.1, (List.length x.1 : Int), (0 : Int))
def ELetter (n : Nat) (x : ((List D_api_Rule) × Unit)) : ELetter_R := ELetter_px n (ELetter_s0 n) (ELetter_s1 n (ELetter_s0 n)) x
theorem ELetter_ex (n : Nat) (rc : RC ELetter_R) (x : ((List D_api_Rule) × Unit)) : codeR rc Tryz.prog ELetter_sp n (bodyOf Tryz.f62) ELetter_an (start ELetter_ps x (Func.ntmps Tryz.f62)) (kFin Tryz.prog ELetter_rs Tryz.f62) = ELetter_px n (fun y => rc ELetter_c0 ELetter_a0 (ELetter_m0 y) (kFin Tryz.prog ELetter_rs Tryz.f62)) (fun y => rc ELetter_c5 ELetter_a9 (ELetter_m1 y) (ELetter_K4 (fun st => rc ELetter_c0 ELetter_a0 st (kFin Tryz.prog ELetter_rs Tryz.f62)))) x := by kernel_rfl
theorem ELetter_qx (n : Nat) (x : ((List D_api_Rule) × Unit)) : codeK Tryz.prog ELetter_sp n (bodyOf Tryz.f62) ELetter_an (start ELetter_ps x (Func.ntmps Tryz.f62)) (kFin Tryz.prog ELetter_rs Tryz.f62) = ELetter n x := by
  have h0 : (fun y => codeK Tryz.prog ELetter_sp n ELetter_c0 ELetter_a0 (ELetter_m0 y) (kFin Tryz.prog ELetter_rs Tryz.f62)) = (ELetter_s0 n) := funext fun y => by
    have := ELetter_q0 n  y
    exact this
  have h1 : (fun y => codeK Tryz.prog ELetter_sp n ELetter_c5 ELetter_a9 (ELetter_m1 y) (ELetter_K4 (fun st => codeK Tryz.prog ELetter_sp n ELetter_c0 ELetter_a0 st (kFin Tryz.prog ELetter_rs Tryz.f62)))) = (ELetter_s1 n (ELetter_s0 n)) := funext fun y => by
    have := ELetter_q1 n (fun st => codeK Tryz.prog ELetter_sp n ELetter_c0 ELetter_a0 st (kFin Tryz.prog ELetter_rs Tryz.f62)) y
    rw [h0] at this; exact this
  rw [codeK_R, ELetter_ex]
  rw [h0]
  rw [h1]
  rfl
def ELetter_spec : Sp := ⟨ELetter_ps, ELetter_rs, ELetter⟩
theorem ELetter_ok : SoundX Tryz.prog CX 62 (.f ELetter_spec) := sound_of (look_cons Elfirst_ok (look_cons Ellast_ok (look_cons Elfire_ok (look_cons Eorder_ok look_nil)))) Tryz.func62 (by kernel_rfl) rfl ELetter_an ELetter_spec rfl rfl ELetter_qx

/-! ### noonmark/expand.Span -/
abbrev ESpan_ps : Ty := (.pair (.list T_api_Rule) .unit)
abbrev ESpan_rs : Ty := (.pair (.int .i64) (.pair (.int .i64) (.pair .bool .unit)))
def ESpan_sp : Specs := look []
def ESpan_an : An := (.s .o (.k [] [2,3,4] 0 (.k [] [2,3,4,8,9,10] 0 .o (.b (.l [] [2,3,4,8,9,10] 0 (.s .o (.s .o (.k [] [2,3,4,8,9,10] 0 (.b (.s .o (.s .o (.k [] [2,3,4,5,6,7,8,9,10] 1 .o (.k [] [2,3,4,6,7,8,9,10] 1 .o .o))))) .o)))))) .o))
abbrev ESpan_R := Option (Int × (Int × (Bool × Unit)))
noncomputable abbrev ESpan_c0 : Code := (cr (cr (bodyOf Tryz.f63)))
noncomputable abbrev ESpan_c1 : Code := (cr (cr (cr (cl (cl (cr (cl (cr (bodyOf Tryz.f63)))))))))
noncomputable abbrev ESpan_c2 : Code := (cr (cr (cr (cr (cl (cl (cr (cr (cl (cl (cr (cl (cr (bodyOf Tryz.f63))))))))))))))
noncomputable abbrev ESpan_c3 : Code := (cr (cr (cr (cl (cl (cr (cr (cl (cl (cr (cl (cr (bodyOf Tryz.f63)))))))))))))
noncomputable abbrev ESpan_c4 : Code := (cl (cl (cr (cl (cr (bodyOf Tryz.f63))))))
noncomputable abbrev ESpan_c5 : Code := (cr (cl (cr (bodyOf Tryz.f63))))
noncomputable abbrev ESpan_a0 : An := ESpan_an.right.right
noncomputable abbrev ESpan_a1 : An := ESpan_an.right.left.right.left.left.right.right.right
noncomputable abbrev ESpan_a2 : An := ESpan_an.right.left.right.left
noncomputable abbrev ESpan_a3 : An := ESpan_an.right.left.right.left.left.right.right.left.left.right.right.right.right
noncomputable abbrev ESpan_a4 : An := ESpan_an.right.left.right.left.left.right.right
noncomputable abbrev ESpan_a5 : An := ESpan_an.right.left.right.left.left.right.right.left.left.right.right.right
noncomputable abbrev ESpan_a6 : An := ESpan_an.right.left.right.left.left
noncomputable abbrev ESpan_a7 : An := ESpan_an.right.left.right
noncomputable abbrev ESpan_K0 (r2 k0 : St → ESpan_R) : Ex → St → ESpan_R := (kSeq r2 ESpan_a2 (kBlk 0 (kSeq k0 ESpan_an.right (kFin Tryz.prog ESpan_rs Tryz.f63))))
noncomputable abbrev ESpan_K1 (k3 r2 k0 : St → ESpan_R) : Ex → St → ESpan_R := (kBlk 1 (kSeq k3 ESpan_a4 (kSeq r2 ESpan_a2 (kBlk 0 (kSeq k0 ESpan_an.right (kFin Tryz.prog ESpan_rs Tryz.f63))))))
noncomputable abbrev ESpan_K2 (k3 r2 k0 : St → ESpan_R) : Ex → St → ESpan_R := (kBlk 1 (kSeq k3 ESpan_a4 (kSeq r2 ESpan_a2 (kBlk 0 (kSeq k0 ESpan_an.right (kFin Tryz.prog ESpan_rs Tryz.f63))))))
noncomputable abbrev ESpan_K3 (r2 k0 : St → ESpan_R) : Ex → St → ESpan_R := (kSeq r2 ESpan_a2 (kBlk 0 (kSeq k0 ESpan_an.right (kFin Tryz.prog ESpan_rs Tryz.f63))))
noncomputable abbrev ESpan_K4 (k0 : St → ESpan_R) : Ex → St → ESpan_R := (kSeq k0 ESpan_an.right (kFin Tryz.prog ESpan_rs Tryz.f63))
abbrev ESpan_t0 := Int × Int × Bool
def ESpan_m0 (z : ESpan_t0) : St := ⟨(.junk :: .junk :: .v ⟨(.int .i64), z.1⟩ :: .v ⟨(.int .i64), z.2.1⟩ :: .v ⟨.bool, z.2.2⟩ :: jk 35 []), []⟩
abbrev ESpan_t1 := Int × Int × Bool × (List D_api_Rule) × Int × Int
def ESpan_m1 (z : ESpan_t1) : St := ⟨(.junk :: .junk :: .v ⟨(.int .i64), z.1⟩ :: .v ⟨(.int .i64), z.2.1⟩ :: .v ⟨.bool, z.2.2.1⟩ :: jk 3 (.v ⟨(.list T_api_Rule), z.2.2.2.1⟩ :: .v ⟨(.int .i64), z.2.2.2.2.1⟩ :: .v ⟨(.int .i64), z.2.2.2.2.2⟩ :: jk 29 [])), []⟩
abbrev ESpan_t2 := Int × Int × Bool × (List D_api_Rule) × Int × Int
def ESpan_m2 (z : ESpan_t2) : St := ⟨(.junk :: .junk :: .v ⟨(.int .i64), z.1⟩ :: .v ⟨(.int .i64), z.2.1⟩ :: .v ⟨.bool, z.2.2.1⟩ :: jk 3 (.v ⟨(.list T_api_Rule), z.2.2.2.1⟩ :: .v ⟨(.int .i64), z.2.2.2.2.1⟩ :: .v ⟨(.int .i64), z.2.2.2.2.2⟩ :: jk 29 [])), []⟩
abbrev ESpan_t3 := Int × Int × Bool × (List D_api_Rule) × Int × Int
def ESpan_m3 (z : ESpan_t3) : St := ⟨(.junk :: .junk :: .v ⟨(.int .i64), z.1⟩ :: .v ⟨(.int .i64), z.2.1⟩ :: .v ⟨.bool, z.2.2.1⟩ :: jk 3 (.v ⟨(.list T_api_Rule), z.2.2.2.1⟩ :: .v ⟨(.int .i64), z.2.2.2.2.1⟩ :: .v ⟨(.int .i64), z.2.2.2.2.2⟩ :: jk 29 [])), []⟩
abbrev ESpan_t4 := Int × Int × Bool × Int × Int × (List D_api_Rule) × Int × Int × D_api_Rule
def ESpan_m4 (z : ESpan_t4) : St := ⟨(.junk :: .junk :: .v ⟨(.int .i64), z.1⟩ :: .v ⟨(.int .i64), z.2.1⟩ :: .v ⟨.bool, z.2.2.1⟩ :: .v ⟨(.int .i64), z.2.2.2.1⟩ :: .v ⟨(.ptr 0 0 T_api_Rule), ()⟩ :: .v ⟨(.int .i64), z.2.2.2.2.1⟩ :: .v ⟨(.list T_api_Rule), z.2.2.2.2.2.1⟩ :: .v ⟨(.int .i64), z.2.2.2.2.2.2.1⟩ :: .v ⟨(.int .i64), z.2.2.2.2.2.2.2.1⟩ :: jk 29 []), [some (.one ⟨T_api_Rule, z.2.2.2.2.2.2.2.2⟩)]⟩
abbrev ESpan_t5 := Int × Int × Bool × Int × (List D_api_Rule) × Int × Int × D_api_Rule
def ESpan_m5 (z : ESpan_t5) : St := ⟨(.junk :: .junk :: .v ⟨(.int .i64), z.1⟩ :: .v ⟨(.int .i64), z.2.1⟩ :: .v ⟨.bool, z.2.2.1⟩ :: .junk :: .v ⟨(.ptr 0 0 T_api_Rule), ()⟩ :: .v ⟨(.int .i64), z.2.2.2.1⟩ :: .v ⟨(.list T_api_Rule), z.2.2.2.2.1⟩ :: .v ⟨(.int .i64), z.2.2.2.2.2.1⟩ :: .v ⟨(.int .i64), z.2.2.2.2.2.2.1⟩ :: jk 29 []), [some (.one ⟨T_api_Rule, z.2.2.2.2.2.2.2⟩)]⟩
def ESpan_p0 (_n : Nat) (z : ESpan_t0) : ESpan_R :=
  some (z.1, (z.2.1, (z.2.2, ())))
def ESpan_s0 (n : Nat) (z : ESpan_t0) : ESpan_R := ESpan_p0 n z
theorem ESpan_e0 (n : Nat) (rc : RC ESpan_R) (z : ESpan_t0) : codeR rc Tryz.prog ESpan_sp n ESpan_c0 ESpan_a0 (ESpan_m0 z) (kFin Tryz.prog ESpan_rs Tryz.f63) = ESpan_p0 n z := by kernel_rfl
theorem ESpan_q0 (n : Nat) (z : ESpan_t0) : codeK Tryz.prog ESpan_sp n ESpan_c0 ESpan_a0 (ESpan_m0 z) (kFin Tryz.prog ESpan_rs Tryz.f63) = ESpan_s0 n z := by
  rw [codeK_R, ESpan_e0]
  rfl
def ESpan_p3 (_n : Nat) (_k0 : ESpan_t0 → ESpan_R) (r2 : ESpan_t2 → ESpan_R) (z : ESpan_t3) : ESpan_R :=
  r2 (z.1, z.2.1, z.2.2.1, z.2.2.2.1, z.2.2.2.2.1, (w64 (z.2.2.2.2.2 + 1)))
def ESpan_s3 (n : Nat) (k0 : ESpan_t0 → ESpan_R) (r2 : ESpan_t2 → ESpan_R) (z : ESpan_t3) : ESpan_R := ESpan_p3 n k0 r2 z
theorem ESpan_e3 (n : Nat) (k0 : St → ESpan_R) (r2 : St → ESpan_R) (rc : RC ESpan_R) (z : ESpan_t3) : codeR rc Tryz.prog ESpan_sp n ESpan_c1 ESpan_a1 (ESpan_m3 z) (ESpan_K0 r2 k0) = ESpan_p3 n (fun y => k0 (ESpan_m0 y)) (fun y => r2 (ESpan_m2 y)) z := by kernel_rfl
theorem ESpan_q3 (n : Nat) (k0 : St → ESpan_R) (r2 : St → ESpan_R) (z : ESpan_t3) : codeK Tryz.prog ESpan_sp n ESpan_c1 ESpan_a1 (ESpan_m3 z) (ESpan_K0 r2 k0) = ESpan_s3 n (fun y => k0 (ESpan_m0 y)) (fun y => r2 (ESpan_m2 y)) z := by
  rw [codeK_R, ESpan_e3]
  rfl
def ESpan_p5 (_n : Nat) (_k0 : ESpan_t0 → ESpan_R) (_r2 : ESpan_t2 → ESpan_R) (k3 : ESpan_t3 → ESpan_R) (z : ESpan_t5) : ESpan_R :=
  k3 ((imin z.1 z.2.2.2.2.2.2.2.2.1), (imax z.2.1 z.2.2.2.1), z.2.2.1, z.2.2.2.2.1, z.2.2.2.2.2.1, z.2.2.2.2.2.2.1)
def ESpan_s5 (n : Nat) (k0 : ESpan_t0 → ESpan_R) (r2 : ESpan_t2 → ESpan_R) (k3 : ESpan_t3 → ESpan_R) (z : ESpan_t5) : ESpan_R := ESpan_p5 n k0 r2 k3 z
theorem ESpan_e5 (n : Nat) (k0 : St → ESpan_R) (r2 : St → ESpan_R) (k3 : St → ESpan_R) (rc : RC ESpan_R) (z : ESpan_t5) : codeR rc Tryz.prog ESpan_sp n ESpan_c2 ESpan_a3 (ESpan_m5 z) (ESpan_K1 k3 r2 k0) = ESpan_p5 n (fun y => k0 (ESpan_m0 y)) (fun y => r2 (ESpan_m2 y)) (fun y => k3 (ESpan_m3 y)) z := by kernel_rfl
theorem ESpan_q5 (n : Nat) (k0 : St → ESpan_R) (r2 : St → ESpan_R) (k3 : St → ESpan_R) (z : ESpan_t5) : codeK Tryz.prog ESpan_sp n ESpan_c2 ESpan_a3 (ESpan_m5 z) (ESpan_K1 k3 r2 k0) = ESpan_s5 n (fun y => k0 (ESpan_m0 y)) (fun y => r2 (ESpan_m2 y)) (fun y => k3 (ESpan_m3 y)) z := by
  rw [codeK_R, ESpan_e5]
  rfl
def ESpan_p4 (_n : Nat) (_k0 : ESpan_t0 → ESpan_R) (_r2 : ESpan_t2 → ESpan_R) (_k3 : ESpan_t3 → ESpan_R) (k5 : ESpan_t5 → ESpan_R) (z : ESpan_t4) : ESpan_R :=
  bif (z.2.2.2.1 == 0) then
    k5 (z.2.2.2.2.2.2.2.2.2.1, (imax z.2.2.2.2.1 z.2.2.2.2.2.2.2.2.2.1), z.2.2.1, z.2.2.2.2.1, z.2.2.2.2.2.1, z.2.2.2.2.2.2.1, z.2.2.2.2.2.2.2.1, z.2.2.2.2.2.2.2.2)
  else
    k5 (z.1, z.2.1, z.2.2.1, z.2.2.2.2.1, z.2.2.2.2.2.1, z.2.2.2.2.2.2.1, z.2.2.2.2.2.2.2.1, z.2.2.2.2.2.2.2.2)
def ESpan_s4 (n : Nat) (k0 : ESpan_t0 → ESpan_R) (r2 : ESpan_t2 → ESpan_R) (k3 : ESpan_t3 → ESpan_R) (z : ESpan_t4) : ESpan_R := ESpan_p4 n k0 r2 k3 (ESpan_s5 n k0 r2 k3) z
theorem ESpan_e4 (n : Nat) (k0 : St → ESpan_R) (r2 : St → ESpan_R) (k3 : St → ESpan_R) (rc : RC ESpan_R) (z : ESpan_t4) : codeR rc Tryz.prog ESpan_sp n ESpan_c3 ESpan_a5 (ESpan_m4 z) (ESpan_K2 k3 r2 k0) = ESpan_p4 n (fun y => k0 (ESpan_m0 y)) (fun y => r2 (ESpan_m2 y)) (fun y => k3 (ESpan_m3 y)) (fun y => rc ESpan_c2 ESpan_a3 (ESpan_m5 y) (ESpan_K1 k3 r2 k0)) z := by kernel_rfl
theorem ESpan_q4 (n : Nat) (k0 : St → ESpan_R) (r2 : St → ESpan_R) (k3 : St → ESpan_R) (z : ESpan_t4) : codeK Tryz.prog ESpan_sp n ESpan_c3 ESpan_a5 (ESpan_m4 z) (ESpan_K2 k3 r2 k0) = ESpan_s4 n (fun y => k0 (ESpan_m0 y)) (fun y => r2 (ESpan_m2 y)) (fun y => k3 (ESpan_m3 y)) z := by
  have h5 : (fun y => codeK Tryz.prog ESpan_sp n ESpan_c2 ESpan_a3 (ESpan_m5 y) (ESpan_K1 k3 r2 k0)) = (ESpan_s5 n (fun y => k0 (ESpan_m0 y)) (fun y => r2 (ESpan_m2 y)) (fun y => k3 (ESpan_m3 y))) := funext fun y => by
    have := ESpan_q5 n k0 r2 k3 y
    exact this
  rw [codeK_R, ESpan_e4]
  rw [h5]
  rfl
def ESpan_p2 (_n : Nat) (k0 : ESpan_t0 → ESpan_R) (_r2 : ESpan_t2 → ESpan_R) (k3 : ESpan_t3 → ESpan_R) (k4 : ESpan_t4 → ESpan_R) (z : ESpan_t2) : ESpan_R :=
  bif (decide (z.2.2.2.2.2 < z.2.2.2.2.1)) then
    bif decide (0 ≤ z.2.2.2.2.2) then
      ((z.2.2.2.1[Int.toNat z.2.2.2.2.2]?)).bind fun e1 =>
      bif (e1.2.2.1 == 10000) then
        k4 (z.1, z.2.1, true, z.2.2.2.2.2, e1.2.1, z.2.2.2.1, z.2.2.2.2.1, z.2.2.2.2.2, e1)
      else
        k4 (z.1, z.2.1, z.2.2.1, z.2.2.2.2.2, e1.2.2.1, z.2.2.2.1, z.2.2.2.2.1, z.2.2.2.2.2, e1)
    else none
  else
    k0 (z.1, z.2.1, z.2.2.1)
def ESpan_s2 (n : Nat) (k0 : ESpan_t0 → ESpan_R) (r2 : ESpan_t2 → ESpan_R) (z : ESpan_t2) : ESpan_R := ESpan_p2 n k0 r2 (ESpan_s3 n k0 r2) (ESpan_s4 n k0 r2 (ESpan_s3 n k0 r2)) z
theorem ESpan_e2 (n : Nat) (k0 : St → ESpan_R) (r2 : St → ESpan_R) (rc : RC ESpan_R) (z : ESpan_t2) : codeR rc Tryz.prog ESpan_sp n ESpan_c4 ESpan_a6 (ESpan_m2 z) (ESpan_K3 r2 k0) = ESpan_p2 n (fun y => k0 (ESpan_m0 y)) (fun y => r2 (ESpan_m2 y)) (fun y => rc ESpan_c1 ESpan_a1 (ESpan_m3 y) (ESpan_K0 r2 k0)) (fun y => rc ESpan_c3 ESpan_a5 (ESpan_m4 y) (ESpan_K2 (fun st => rc ESpan_c1 ESpan_a1 st (ESpan_K0 r2 k0)) r2 k0)) z := by kernel_rfl
theorem ESpan_q2 (n : Nat) (k0 : St → ESpan_R) (r2 : St → ESpan_R) (z : ESpan_t2) : codeK Tryz.prog ESpan_sp n ESpan_c4 ESpan_a6 (ESpan_m2 z) (ESpan_K3 r2 k0) = ESpan_s2 n (fun y => k0 (ESpan_m0 y)) (fun y => r2 (ESpan_m2 y)) z := by
  have h3 : (fun y => codeK Tryz.prog ESpan_sp n ESpan_c1 ESpan_a1 (ESpan_m3 y) (ESpan_K0 r2 k0)) = (ESpan_s3 n (fun y => k0 (ESpan_m0 y)) (fun y => r2 (ESpan_m2 y))) := funext fun y => by
    have := ESpan_q3 n k0 r2 y
    exact this
  have h4 : (fun y => codeK Tryz.prog ESpan_sp n ESpan_c3 ESpan_a5 (ESpan_m4 y) (ESpan_K2 (fun st => codeK Tryz.prog ESpan_sp n ESpan_c1 ESpan_a1 st (ESpan_K0 r2 k0)) r2 k0)) = (ESpan_s4 n (fun y => k0 (ESpan_m0 y)) (fun y => r2 (ESpan_m2 y)) (ESpan_s3 n (fun y => k0 (ESpan_m0 y)) (fun y => r2 (ESpan_m2 y)))) := funext fun y => by
    have := ESpan_q4 n k0 r2 (fun st => codeK Tryz.prog ESpan_sp n ESpan_c1 ESpan_a1 st (ESpan_K0 r2 k0)) y
    rw [h3] at this; exact this
  rw [codeK_R, ESpan_e2]
  rw [h3]
  rw [h4]
  rfl
def ESpan_s1 (n : Nat) (k0 : ESpan_t0 → ESpan_R) (z : ESpan_t1) : ESpan_R :=
  rounds (fun r2 x' => ESpan_s2 n k0 r2 x') n (z.1, z.2.1, z.2.2.1, z.2.2.2.1, z.2.2.2.2.1, z.2.2.2.2.2)
theorem ESpan_q1 (n : Nat) (k0 : St → ESpan_R) (z : ESpan_t1) : codeK Tryz.prog ESpan_sp n ESpan_c5 ESpan_a7 (ESpan_m1 z) (ESpan_K4 k0) = ESpan_s1 n (fun y => k0 (ESpan_m0 y)) z :=
  Eq.trans (b := rounds (fun r2 st => codeK Tryz.prog ESpan_sp n ESpan_c4 ESpan_a6 st (ESpan_K3 r2 k0)) n (ESpan_m2 (z.1, z.2.1, z.2.2.1, z.2.2.2.1, z.2.2.2.2.1, z.2.2.2.2.2))) (by kernel_rfl) (rounds_mk ESpan_m2 (fun r2 x' => by
    have := (ESpan_q2 n k0 r2 x')
    exact this) n _)
def ESpan_px (_n : Nat) (k0 : ESpan_t0 → ESpan_R) (k1 : ESpan_t1 → ESpan_R) (x : ((List D_api_Rule) × Unit)) : ESpan_R :=
  k1 ((0 : Int), (0 : Int), false, x.1, (List.length x.1 : Int), (0 : Int))
def ESpan (n : Nat) (x : ((List D_api_Rule) × Unit)) : ESpan_R := ESpan_px n (ESpan_s0 n) (ESpan_s1 n (ESpan_s0 n)) x
theorem ESpan_ex (n : Nat) (rc : RC ESpan_R) (x : ((List D_api_Rule) × Unit)) : codeR rc Tryz.prog ESpan_sp n (bodyOf Tryz.f63) ESpan_an (start ESpan_ps x (Func.ntmps Tryz.f63)) (kFin Tryz.prog ESpan_rs Tryz.f63) = ESpan_px n (fun y => rc ESpan_c0 ESpan_a0 (ESpan_m0 y) (kFin Tryz.prog ESpan_rs Tryz.f63)) (fun y => rc ESpan_c5 ESpan_a7 (ESpan_m1 y) (ESpan_K4 (fun st => rc ESpan_c0 ESpan_a0 st (kFin Tryz.prog ESpan_rs Tryz.f63)))) x := by kernel_rfl
theorem ESpan_qx (n : Nat) (x : ((List D_api_Rule) × Unit)) : codeK Tryz.prog ESpan_sp n (bodyOf Tryz.f63) ESpan_an (start ESpan_ps x (Func.ntmps Tryz.f63)) (kFin Tryz.prog ESpan_rs Tryz.f63) = ESpan n x := by
  have h0 : (fun y => codeK Tryz.prog ESpan_sp n ESpan_c0 ESpan_a0 (ESpan_m0 y) (kFin Tryz.prog ESpan_rs Tryz.f63)) = (ESpan_s0 n) := funext fun y => by
    have := ESpan_q0 n  y
    exact this
  have h1 : (fun y => codeK Tryz.prog ESpan_sp n ESpan_c5 ESpan_a7 (ESpan_m1 y) (ESpan_K4 (fun st => codeK Tryz.prog ESpan_sp n ESpan_c0 ESpan_a0 st (kFin Tryz.prog ESpan_rs Tryz.f63)))) = (ESpan_s1 n (ESpan_s0 n)) := funext fun y => by
    have := ESpan_q1 n (fun st => codeK Tryz.prog ESpan_sp n ESpan_c0 ESpan_a0 st (kFin Tryz.prog ESpan_rs Tryz.f63)) y
    rw [h0] at this; exact this
  rw [codeK_R, ESpan_ex]
  rw [h0]
  rw [h1]
  rfl
def ESpan_spec : Sp := ⟨ESpan_ps, ESpan_rs, ESpan⟩
theorem ESpan_ok : SoundX Tryz.prog CX 63 (.f ESpan_spec) := sound_of look_nil Tryz.func63 (by kernel_rfl) rfl ESpan_an ESpan_spec rfl rfl ESpan_qx

/-! ### (noonmark/expand.lasting).ahead -/
abbrev Elahead_ps : Ty := (.pair T_api_Rule T_api_At)
abbrev Elahead_rs : Ty := (.pair T_EFire (.pair .bool .unit))
def Elahead_sp : Specs := look [(85, .f Elfirst_spec), (86, .f Ellast_spec), (87, .f Elfire_spec)]
def Elahead_an : An := (.s .o (.s .o (.s .o (.k [] [6] 2 (.k [] [1,3,6,8,9,10] 2 .o (.b (.l [] [1,3,6,8,9,10] 2 .o))) .o))))
abbrev Elahead_R := Option (D_EFire × (Bool × Unit))
noncomputable abbrev Elahead_c0 : Code := (cr (cr (cr (cr (bodyOf Tryz.f108)))))
noncomputable abbrev Elahead_c1 : Code := (cl (cl (cr (cl (cr (cr (cr (bodyOf Tryz.f108))))))))
noncomputable abbrev Elahead_c2 : Code := (cr (cl (cr (cr (cr (bodyOf Tryz.f108))))))
noncomputable abbrev Elahead_a0 : An := Elahead_an.right.right.right.right
noncomputable abbrev Elahead_a1 : An := Elahead_an.right.right.right.left.right.left.left
noncomputable abbrev Elahead_a2 : An := Elahead_an.right.right.right
noncomputable abbrev Elahead_a3 : An := Elahead_an.right.right.right.left.right.left
noncomputable abbrev Elahead_a4 : An := Elahead_an.right.right.right.left.right
noncomputable abbrev Elahead_K0 (r2 k0 : St → Elahead_R) : Ex → St → Elahead_R := (kSeq r2 Elahead_a3 (kBlk 0 (kSeq k0 Elahead_a2 (kFin Tryz.prog Elahead_rs Tryz.f108))))
noncomputable abbrev Elahead_K1 (k0 : St → Elahead_R) : Ex → St → Elahead_R := (kSeq k0 Elahead_a2 (kFin Tryz.prog Elahead_rs Tryz.f108))
abbrev Elahead_t0 := D_api_Rule × D_EFire
def Elahead_m0 (z : Elahead_t0) : St := ⟨(jk 6 (.v ⟨(.ptr 1 0 T_EFire), ()⟩ :: jk 36 [])), [some (.one ⟨T_api_Rule, z.1⟩), some (.one ⟨T_EFire, z.2⟩)]⟩
abbrev Elahead_t1 := Int × (D_api_Rule × Unit) × Int × Int × D_api_Rule × D_EFire
def Elahead_m1 (z : Elahead_t1) : St := ⟨(.junk :: .v ⟨(.int .i64), z.1⟩ :: .junk :: .v ⟨(.ptr 0 0 T_api_Rule), ()⟩ :: .junk :: .junk :: .v ⟨(.ptr 1 0 T_EFire), ()⟩ :: .junk :: .v ⟨(.fn 87 1 (.pair T_api_Rule .unit)), z.2.1⟩ :: .v ⟨(.int .i64), z.2.2.1⟩ :: .v ⟨(.int .i64), z.2.2.2.1⟩ :: jk 32 []), [some (.one ⟨T_api_Rule, z.2.2.2.2.1⟩), some (.one ⟨T_EFire, z.2.2.2.2.2⟩)]⟩
abbrev Elahead_t2 := Int × (D_api_Rule × Unit) × Int × Int × D_api_Rule × D_EFire
def Elahead_m2 (z : Elahead_t2) : St := ⟨(.junk :: .v ⟨(.int .i64), z.1⟩ :: .junk :: .v ⟨(.ptr 0 0 T_api_Rule), ()⟩ :: .junk :: .junk :: .v ⟨(.ptr 1 0 T_EFire), ()⟩ :: .junk :: .v ⟨(.fn 87 1 (.pair T_api_Rule .unit)), z.2.1⟩ :: .v ⟨(.int .i64), z.2.2.1⟩ :: .v ⟨(.int .i64), z.2.2.2.1⟩ :: jk 32 []), [some (.one ⟨T_api_Rule, z.2.2.2.2.1⟩), some (.one ⟨T_EFire, z.2.2.2.2.2⟩)]⟩
def Elahead_p0 (_n : Nat) (_z : Elahead_t0) : Elahead_R :=
  some (((0 : Int), ((0 : Int), ((0 : Int), ((0 : Int), ())))), (false, ()))
def Elahead_s0 (n : Nat) (z : Elahead_t0) : Elahead_R := Elahead_p0 n z
theorem Elahead_e0 (n : Nat) (rc : RC Elahead_R) (z : Elahead_t0) : codeR rc Tryz.prog Elahead_sp n Elahead_c0 Elahead_a0 (Elahead_m0 z) (kFin Tryz.prog Elahead_rs Tryz.f108) = Elahead_p0 n z := by kernel_rfl
theorem Elahead_q0 (n : Nat) (z : Elahead_t0) : codeK Tryz.prog Elahead_sp n Elahead_c0 Elahead_a0 (Elahead_m0 z) (kFin Tryz.prog Elahead_rs Tryz.f108) = Elahead_s0 n z := by
  rw [codeK_R, Elahead_e0]
  rfl
def Elahead_p2 (n : Nat) (k0 : Elahead_t0 → Elahead_R) (r2 : Elahead_t2 → Elahead_R) (z : Elahead_t2) : Elahead_R :=
  ((Elfirst n (z.2.2.2.2.1, ()))).bind fun v4 =>
  bif (decide (z.2.2.2.1 ≥ v4.1)) then
    bif (decide ((w64 (z.2.2.1 - z.2.2.2.1)) ≤ 8)) then
      ((Elfire n (z.2.1.1, (z.1, (z.2.2.2.1, ()))))).bind fun v6 =>
      bif v6.2.1 then
        some (v6.1, (true, ()))
      else
        r2 (z.1, z.2.1, z.2.2.1, (w64 (z.2.2.2.1 - 1)), z.2.2.2.2.1, z.2.2.2.2.2)
    else
      k0 (z.2.2.2.2.1, z.2.2.2.2.2)
  else
    k0 (z.2.2.2.2.1, z.2.2.2.2.2)
def Elahead_s2 (n : Nat) (k0 : Elahead_t0 → Elahead_R) (r2 : Elahead_t2 → Elahead_R) (z : Elahead_t2) : Elahead_R := Elahead_p2 n k0 r2 z
theorem Elahead_e2 (n : Nat) (k0 : St → Elahead_R) (r2 : St → Elahead_R) (rc : RC Elahead_R) (z : Elahead_t2) : codeR rc Tryz.prog Elahead_sp n Elahead_c1 Elahead_a1 (Elahead_m2 z) (Elahead_K0 r2 k0) = Elahead_p2 n (fun y => k0 (Elahead_m0 y)) (fun y => r2 (Elahead_m2 y)) z := by kernel_rfl
theorem Elahead_q2 (n : Nat) (k0 : St → Elahead_R) (r2 : St → Elahead_R) (z : Elahead_t2) : codeK Tryz.prog Elahead_sp n Elahead_c1 Elahead_a1 (Elahead_m2 z) (Elahead_K0 r2 k0) = Elahead_s2 n (fun y => k0 (Elahead_m0 y)) (fun y => r2 (Elahead_m2 y)) z := by
  rw [codeK_R, Elahead_e2]
  rfl
def Elahead_s1 (n : Nat) (k0 : Elahead_t0 → Elahead_R) (z : Elahead_t1) : Elahead_R :=
  rounds (fun r2 x' => Elahead_s2 n k0 r2 x') n (z.1, z.2.1, z.2.2.1, z.2.2.2.1, z.2.2.2.2.1, z.2.2.2.2.2)
theorem Elahead_q1 (n : Nat) (k0 : St → Elahead_R) (z : Elahead_t1) : codeK Tryz.prog Elahead_sp n Elahead_c2 Elahead_a4 (Elahead_m1 z) (Elahead_K1 k0) = Elahead_s1 n (fun y => k0 (Elahead_m0 y)) z :=
  Eq.trans (b := rounds (fun r2 st => codeK Tryz.prog Elahead_sp n Elahead_c1 Elahead_a1 st (Elahead_K0 r2 k0)) n (Elahead_m2 (z.1, z.2.1, z.2.2.1, z.2.2.2.1, z.2.2.2.2.1, z.2.2.2.2.2))) (by kernel_rfl) (rounds_mk Elahead_m2 (fun r2 x' => by
    have := (Elahead_q2 n k0 r2 x')
    exact this) n _)
def Elahead_px (n : Nat) (k0 : Elahead_t0 → Elahead_R) (k1 : Elahead_t1 → Elahead_R) (x : (D_api_Rule × D_api_At)) : Elahead_R :=
  ((Ellast n (x.1, ()))).bind fun v2 =>
  let t3 := imin (w64 (x.2.2.1 - 1)) v2.1
  k1 (x.2.1, (x.1, ()), t3, t3, x.1, ((0 : Int), ((0 : Int), ((0 : Int), ((0 : Int), ())))))
def Elahead (n : Nat) (x : (D_api_Rule × D_api_At)) : Elahead_R := Elahead_px n (Elahead_s0 n) (Elahead_s1 n (Elahead_s0 n)) x
theorem Elahead_ex (n : Nat) (rc : RC Elahead_R) (x : (D_api_Rule × D_api_At)) : codeR rc Tryz.prog Elahead_sp n (bodyOf Tryz.f108) Elahead_an (start Elahead_ps x (Func.ntmps Tryz.f108)) (kFin Tryz.prog Elahead_rs Tryz.f108) = Elahead_px n (fun y => rc Elahead_c0 Elahead_a0 (Elahead_m0 y) (kFin Tryz.prog Elahead_rs Tryz.f108)) (fun y => rc Elahead_c2 Elahead_a4 (Elahead_m1 y) (Elahead_K1 (fun st => rc Elahead_c0 Elahead_a0 st (kFin Tryz.prog Elahead_rs Tryz.f108)))) x := by kernel_rfl
theorem Elahead_qx (n : Nat) (x : (D_api_Rule × D_api_At)) : codeK Tryz.prog Elahead_sp n (bodyOf Tryz.f108) Elahead_an (start Elahead_ps x (Func.ntmps Tryz.f108)) (kFin Tryz.prog Elahead_rs Tryz.f108) = Elahead n x := by
  have h0 : (fun y => codeK Tryz.prog Elahead_sp n Elahead_c0 Elahead_a0 (Elahead_m0 y) (kFin Tryz.prog Elahead_rs Tryz.f108)) = (Elahead_s0 n) := funext fun y => by
    have := Elahead_q0 n  y
    exact this
  have h1 : (fun y => codeK Tryz.prog Elahead_sp n Elahead_c2 Elahead_a4 (Elahead_m1 y) (Elahead_K1 (fun st => codeK Tryz.prog Elahead_sp n Elahead_c0 Elahead_a0 st (kFin Tryz.prog Elahead_rs Tryz.f108)))) = (Elahead_s1 n (Elahead_s0 n)) := funext fun y => by
    have := Elahead_q1 n (fun st => codeK Tryz.prog Elahead_sp n Elahead_c0 Elahead_a0 st (kFin Tryz.prog Elahead_rs Tryz.f108)) y
    rw [h0] at this; exact this
  rw [codeK_R, Elahead_ex]
  rw [h0]
  rw [h1]
  rfl
def Elahead_spec : Sp := ⟨Elahead_ps, Elahead_rs, Elahead⟩
theorem Elahead_ok : SoundX Tryz.prog CX 108 (.f Elahead_spec) := sound_of (look_cons Elfirst_ok (look_cons Ellast_ok (look_cons Elfire_ok look_nil))) Tryz.func108 (by kernel_rfl) rfl Elahead_an Elahead_spec rfl rfl Elahead_qx

/-! ### noonmark/expand.saved -/
abbrev Esaved_ps : Ty := (.pair (.list T_api_Rule) (.pair (.int .i64) .unit))
abbrev Esaved_rs : Ty := (.pair (.int .i64) .unit)
def Esaved_sp : Specs := look [(108, .f Elahead_spec), (88, .f Eorder_spec)]
def Esaved_an : An := (.s .o (.s .o (.s .o (.k [] [6] 0 (.k [] [1,5,6,7,12,13,14] 1 .o (.b (.l [] [1,5,6,7,12,13,14] 1 (.s .o (.s .o (.k [] [1,5,6,7,12,13,14] 1 (.b (.s .o (.s .o (.k [] [1,5,6,7,9,10,12,13,14,36] 3 .o .o)))) .o)))))) .o))))
abbrev Esaved_R := Option (Int × Unit)
noncomputable abbrev Esaved_c0 : Code := (cr (cr (cr (cr (bodyOf Tryz.f90)))))
noncomputable abbrev Esaved_c1 : Code := (cr (cr (cr (cl (cl (cr (cl (cr (cr (cr (bodyOf Tryz.f90)))))))))))
noncomputable abbrev Esaved_c2 : Code := (cr (cr (cr (cl (cl (cr (cr (cl (cl (cr (cl (cr (cr (cr (bodyOf Tryz.f90)))))))))))))))
noncomputable abbrev Esaved_c3 : Code := (cl (cl (cr (cl (cr (cr (cr (bodyOf Tryz.f90))))))))
noncomputable abbrev Esaved_c4 : Code := (cr (cl (cr (cr (cr (bodyOf Tryz.f90))))))
noncomputable abbrev Esaved_a0 : An := Esaved_an.right.right.right.right
noncomputable abbrev Esaved_a1 : An := Esaved_an.right.right.right.left.right.left.left.right.right.right
noncomputable abbrev Esaved_a2 : An := Esaved_an.right.right.right
noncomputable abbrev Esaved_a3 : An := Esaved_an.right.right.right.left.right.left
noncomputable abbrev Esaved_a4 : An := Esaved_an.right.right.right.left.right.left.left.right.right.left.left.right.right.right
noncomputable abbrev Esaved_a5 : An := Esaved_an.right.right.right.left.right.left.left.right.right
noncomputable abbrev Esaved_a6 : An := Esaved_an.right.right.right.left.right.left.left
noncomputable abbrev Esaved_a7 : An := Esaved_an.right.right.right.left.right
noncomputable abbrev Esaved_K0 (r2 k0 : St → Esaved_R) : Ex → St → Esaved_R := (kSeq r2 Esaved_a3 (kBlk 0 (kSeq k0 Esaved_a2 (kFin Tryz.prog Esaved_rs Tryz.f90))))
noncomputable abbrev Esaved_K1 (k3 r2 k0 : St → Esaved_R) : Ex → St → Esaved_R := (kBlk 1 (kSeq k3 Esaved_a5 (kSeq r2 Esaved_a3 (kBlk 0 (kSeq k0 Esaved_a2 (kFin Tryz.prog Esaved_rs Tryz.f90))))))
noncomputable abbrev Esaved_K2 (r2 k0 : St → Esaved_R) : Ex → St → Esaved_R := (kSeq r2 Esaved_a3 (kBlk 0 (kSeq k0 Esaved_a2 (kFin Tryz.prog Esaved_rs Tryz.f90))))
noncomputable abbrev Esaved_K3 (k0 : St → Esaved_R) : Ex → St → Esaved_R := (kSeq k0 Esaved_a2 (kFin Tryz.prog Esaved_rs Tryz.f90))
abbrev Esaved_t0 := Int
def Esaved_m0 (z : Esaved_t0) : St := ⟨(jk 6 (.v ⟨(.int .i64), z⟩ :: jk 35 [])), []⟩
abbrev Esaved_t1 := Int × Int × Bool × (List D_api_Rule) × Int × Int × D_EFire
def Esaved_m1 (z : Esaved_t1) : St := ⟨(.junk :: .v ⟨(.int .i64), z.1⟩ :: jk 3 (.v ⟨(.ptr 0 0 T_EFire), ()⟩ :: .v ⟨(.int .i64), z.2.1⟩ :: .v ⟨.bool, z.2.2.1⟩ :: jk 4 (.v ⟨(.list T_api_Rule), z.2.2.2.1⟩ :: .v ⟨(.int .i64), z.2.2.2.2.1⟩ :: .v ⟨(.int .i64), z.2.2.2.2.2.1⟩ :: jk 27 []))), [some (.one ⟨T_EFire, z.2.2.2.2.2.2⟩)]⟩
abbrev Esaved_t2 := Int × Int × Bool × (List D_api_Rule) × Int × Int × D_EFire
def Esaved_m2 (z : Esaved_t2) : St := ⟨(.junk :: .v ⟨(.int .i64), z.1⟩ :: jk 3 (.v ⟨(.ptr 0 0 T_EFire), ()⟩ :: .v ⟨(.int .i64), z.2.1⟩ :: .v ⟨.bool, z.2.2.1⟩ :: jk 4 (.v ⟨(.list T_api_Rule), z.2.2.2.1⟩ :: .v ⟨(.int .i64), z.2.2.2.2.1⟩ :: .v ⟨(.int .i64), z.2.2.2.2.2.1⟩ :: jk 27 []))), [some (.one ⟨T_EFire, z.2.2.2.2.2.2⟩)]⟩
abbrev Esaved_t3 := Int × Int × Bool × (List D_api_Rule) × Int × Int × D_EFire
def Esaved_m3 (z : Esaved_t3) : St := ⟨(.junk :: .v ⟨(.int .i64), z.1⟩ :: jk 3 (.v ⟨(.ptr 0 0 T_EFire), ()⟩ :: .v ⟨(.int .i64), z.2.1⟩ :: .v ⟨.bool, z.2.2.1⟩ :: jk 4 (.v ⟨(.list T_api_Rule), z.2.2.2.1⟩ :: .v ⟨(.int .i64), z.2.2.2.2.1⟩ :: .v ⟨(.int .i64), z.2.2.2.2.2.1⟩ :: jk 27 []))), [some (.one ⟨T_EFire, z.2.2.2.2.2.2⟩)]⟩
abbrev Esaved_t4 := Int × Int × Bool × (List D_api_Rule) × Int × Int × Bool × D_EFire × D_api_Rule × D_EFire
def Esaved_m4 (z : Esaved_t4) : St := ⟨(.junk :: .v ⟨(.int .i64), z.1⟩ :: jk 3 (.v ⟨(.ptr 0 0 T_EFire), ()⟩ :: .v ⟨(.int .i64), z.2.1⟩ :: .v ⟨.bool, z.2.2.1⟩ :: .junk :: .v ⟨(.ptr 1 0 T_api_Rule), ()⟩ :: .v ⟨(.ptr 2 0 T_EFire), ()⟩ :: .junk :: .v ⟨(.list T_api_Rule), z.2.2.2.1⟩ :: .v ⟨(.int .i64), z.2.2.2.2.1⟩ :: .v ⟨(.int .i64), z.2.2.2.2.2.1⟩ :: jk 21 (.v ⟨.bool, z.2.2.2.2.2.2.1⟩ :: jk 5 []))), [some (.one ⟨T_EFire, z.2.2.2.2.2.2.2.1⟩), some (.one ⟨T_api_Rule, z.2.2.2.2.2.2.2.2.1⟩), some (.one ⟨T_EFire, z.2.2.2.2.2.2.2.2.2⟩)]⟩
def Esaved_p0 (_n : Nat) (z : Esaved_t0) : Esaved_R :=
  some (z, ())
def Esaved_s0 (n : Nat) (z : Esaved_t0) : Esaved_R := Esaved_p0 n z
theorem Esaved_e0 (n : Nat) (rc : RC Esaved_R) (z : Esaved_t0) : codeR rc Tryz.prog Esaved_sp n Esaved_c0 Esaved_a0 (Esaved_m0 z) (kFin Tryz.prog Esaved_rs Tryz.f90) = Esaved_p0 n z := by kernel_rfl
theorem Esaved_q0 (n : Nat) (z : Esaved_t0) : codeK Tryz.prog Esaved_sp n Esaved_c0 Esaved_a0 (Esaved_m0 z) (kFin Tryz.prog Esaved_rs Tryz.f90) = Esaved_s0 n z := by
  rw [codeK_R, Esaved_e0]
  rfl
def Esaved_p3 (_n : Nat) (_k0 : Esaved_t0 → Esaved_R) (r2 : Esaved_t2 → Esaved_R) (z : Esaved_t3) : Esaved_R :=
  r2 (z.1, z.2.1, z.2.2.1, z.2.2.2.1, z.2.2.2.2.1, (w64 (z.2.2.2.2.2.1 + 1)), z.2.2.2.2.2.2)
def Esaved_s3 (n : Nat) (k0 : Esaved_t0 → Esaved_R) (r2 : Esaved_t2 → Esaved_R) (z : Esaved_t3) : Esaved_R := Esaved_p3 n k0 r2 z
theorem Esaved_e3 (n : Nat) (k0 : St → Esaved_R) (r2 : St → Esaved_R) (rc : RC Esaved_R) (z : Esaved_t3) : codeR rc Tryz.prog Esaved_sp n Esaved_c1 Esaved_a1 (Esaved_m3 z) (Esaved_K0 r2 k0) = Esaved_p3 n (fun y => k0 (Esaved_m0 y)) (fun y => r2 (Esaved_m2 y)) z := by kernel_rfl
theorem Esaved_q3 (n : Nat) (k0 : St → Esaved_R) (r2 : St → Esaved_R) (z : Esaved_t3) : codeK Tryz.prog Esaved_sp n Esaved_c1 Esaved_a1 (Esaved_m3 z) (Esaved_K0 r2 k0) = Esaved_s3 n (fun y => k0 (Esaved_m0 y)) (fun y => r2 (Esaved_m2 y)) z := by
  rw [codeK_R, Esaved_e3]
  rfl
def Esaved_p4 (_n : Nat) (_k0 : Esaved_t0 → Esaved_R) (_r2 : Esaved_t2 → Esaved_R) (k3 : Esaved_t3 → Esaved_R) (z : Esaved_t4) : Esaved_R :=
  bif z.2.2.2.2.2.2.1 then
    k3 (z.1, z.2.2.2.2.2.2.2.2.1.2.2.2.2.2.2.1, true, z.2.2.2.1, z.2.2.2.2.1, z.2.2.2.2.2.1, z.2.2.2.2.2.2.2.2.2)
  else
    k3 (z.1, z.2.1, z.2.2.1, z.2.2.2.1, z.2.2.2.2.1, z.2.2.2.2.2.1, z.2.2.2.2.2.2.2.1)
def Esaved_s4 (n : Nat) (k0 : Esaved_t0 → Esaved_R) (r2 : Esaved_t2 → Esaved_R) (k3 : Esaved_t3 → Esaved_R) (z : Esaved_t4) : Esaved_R := Esaved_p4 n k0 r2 k3 z
theorem Esaved_e4 (n : Nat) (k0 : St → Esaved_R) (r2 : St → Esaved_R) (k3 : St → Esaved_R) (rc : RC Esaved_R) (z : Esaved_t4) : codeR rc Tryz.prog Esaved_sp n Esaved_c2 Esaved_a4 (Esaved_m4 z) (Esaved_K1 k3 r2 k0) = Esaved_p4 n (fun y => k0 (Esaved_m0 y)) (fun y => r2 (Esaved_m2 y)) (fun y => k3 (Esaved_m3 y)) z := by kernel_rfl
theorem Esaved_q4 (n : Nat) (k0 : St → Esaved_R) (r2 : St → Esaved_R) (k3 : St → Esaved_R) (z : Esaved_t4) : codeK Tryz.prog Esaved_sp n Esaved_c2 Esaved_a4 (Esaved_m4 z) (Esaved_K1 k3 r2 k0) = Esaved_s4 n (fun y => k0 (Esaved_m0 y)) (fun y => r2 (Esaved_m2 y)) (fun y => k3 (Esaved_m3 y)) z := by
  rw [codeK_R, Esaved_e4]
  rfl
def Esaved_p2 (n : Nat) (k0 : Esaved_t0 → Esaved_R) (_r2 : Esaved_t2 → Esaved_R) (k3 : Esaved_t3 → Esaved_R) (k4 : Esaved_t4 → Esaved_R) (z : Esaved_t2) : Esaved_R :=
  bif (decide (z.2.2.2.2.2.1 < z.2.2.2.2.1)) then
    bif decide (0 ≤ z.2.2.2.2.2.1) then
      ((z.2.2.2.1[Int.toNat z.2.2.2.2.2.1]?)).bind fun e1 =>
      ((Elahead n (e1, (z.2.2.2.2.2.1, (z.1, ()))))).bind fun v2 =>
      bif v2.2.1 then
        bif (!z.2.2.1) then
          k4 (z.1, z.2.1, z.2.2.1, z.2.2.2.1, z.2.2.2.2.1, z.2.2.2.2.2.1, true, z.2.2.2.2.2.2, e1, v2.1)
        else
          ((Eorder n (z.2.2.2.2.2.2, (v2.1, ())))).bind fun v3 =>
          k4 (z.1, z.2.1, z.2.2.1, z.2.2.2.1, z.2.2.2.2.1, z.2.2.2.2.2.1, (decide (v3.1 < 0)), z.2.2.2.2.2.2, e1, v2.1)
      else
        k4 (z.1, z.2.1, z.2.2.1, z.2.2.2.1, z.2.2.2.2.1, z.2.2.2.2.2.1, false, z.2.2.2.2.2.2, e1, v2.1)
    else none
  else
    k0 z.2.1
def Esaved_s2 (n : Nat) (k0 : Esaved_t0 → Esaved_R) (r2 : Esaved_t2 → Esaved_R) (z : Esaved_t2) : Esaved_R := Esaved_p2 n k0 r2 (Esaved_s3 n k0 r2) (Esaved_s4 n k0 r2 (Esaved_s3 n k0 r2)) z
theorem Esaved_e2 (n : Nat) (k0 : St → Esaved_R) (r2 : St → Esaved_R) (rc : RC Esaved_R) (z : Esaved_t2) : codeR rc Tryz.prog Esaved_sp n Esaved_c3 Esaved_a6 (Esaved_m2 z) (Esaved_K2 r2 k0) = Esaved_p2 n (fun y => k0 (Esaved_m0 y)) (fun y => r2 (Esaved_m2 y)) (fun y => rc Esaved_c1 Esaved_a1 (Esaved_m3 y) (Esaved_K0 r2 k0)) (fun y => rc Esaved_c2 Esaved_a4 (Esaved_m4 y) (Esaved_K1 (fun st => rc Esaved_c1 Esaved_a1 st (Esaved_K0 r2 k0)) r2 k0)) z := by kernel_rfl
theorem Esaved_q2 (n : Nat) (k0 : St → Esaved_R) (r2 : St → Esaved_R) (z : Esaved_t2) : codeK Tryz.prog Esaved_sp n Esaved_c3 Esaved_a6 (Esaved_m2 z) (Esaved_K2 r2 k0) = Esaved_s2 n (fun y => k0 (Esaved_m0 y)) (fun y => r2 (Esaved_m2 y)) z := by
  have h3 : (fun y => codeK Tryz.prog Esaved_sp n Esaved_c1 Esaved_a1 (Esaved_m3 y) (Esaved_K0 r2 k0)) = (Esaved_s3 n (fun y => k0 (Esaved_m0 y)) (fun y => r2 (Esaved_m2 y))) := funext fun y => by
    have := Esaved_q3 n k0 r2 y
    exact this
  have h4 : (fun y => codeK Tryz.prog Esaved_sp n Esaved_c2 Esaved_a4 (Esaved_m4 y) (Esaved_K1 (fun st => codeK Tryz.prog Esaved_sp n Esaved_c1 Esaved_a1 st (Esaved_K0 r2 k0)) r2 k0)) = (Esaved_s4 n (fun y => k0 (Esaved_m0 y)) (fun y => r2 (Esaved_m2 y)) (Esaved_s3 n (fun y => k0 (Esaved_m0 y)) (fun y => r2 (Esaved_m2 y)))) := funext fun y => by
    have := Esaved_q4 n k0 r2 (fun st => codeK Tryz.prog Esaved_sp n Esaved_c1 Esaved_a1 st (Esaved_K0 r2 k0)) y
    rw [h3] at this; exact this
  rw [codeK_R, Esaved_e2]
  rw [h3]
  rw [h4]
  rfl
def Esaved_s1 (n : Nat) (k0 : Esaved_t0 → Esaved_R) (z : Esaved_t1) : Esaved_R :=
  rounds (fun r2 x' => Esaved_s2 n k0 r2 x') n (z.1, z.2.1, z.2.2.1, z.2.2.2.1, z.2.2.2.2.1, z.2.2.2.2.2.1, z.2.2.2.2.2.2)
theorem Esaved_q1 (n : Nat) (k0 : St → Esaved_R) (z : Esaved_t1) : codeK Tryz.prog Esaved_sp n Esaved_c4 Esaved_a7 (Esaved_m1 z) (Esaved_K3 k0) = Esaved_s1 n (fun y => k0 (Esaved_m0 y)) z :=
  Eq.trans (b := rounds (fun r2 st => codeK Tryz.prog Esaved_sp n Esaved_c3 Esaved_a6 st (Esaved_K2 r2 k0)) n (Esaved_m2 (z.1, z.2.1, z.2.2.1, z.2.2.2.1, z.2.2.2.2.1, z.2.2.2.2.2.1, z.2.2.2.2.2.2))) (by kernel_rfl) (rounds_mk Esaved_m2 (fun r2 x' => by
    have := (Esaved_q2 n k0 r2 x')
    exact this) n _)
def Esaved_px (_n : Nat) (k0 : Esaved_t0 → Esaved_R) (k1 : Esaved_t1 → Esaved_R) (x : ((List D_api_Rule) × (Int × Unit))) : Esaved_R :=
  k1 (x.2.1, (0 : Int), false, x.1, (List.length x.1 : Int), (0 : Int), ((0 : Int), ((0 : Int), ((0 : Int), ((0 : Int), ())))))
def Esaved (n : Nat) (x : ((List D_api_Rule) × (Int × Unit))) : Esaved_R := Esaved_px n (Esaved_s0 n) (Esaved_s1 n (Esaved_s0 n)) x
theorem Esaved_ex (n : Nat) (rc : RC Esaved_R) (x : ((List D_api_Rule) × (Int × Unit))) : codeR rc Tryz.prog Esaved_sp n (bodyOf Tryz.f90) Esaved_an (start Esaved_ps x (Func.ntmps Tryz.f90)) (kFin Tryz.prog Esaved_rs Tryz.f90) = Esaved_px n (fun y => rc Esaved_c0 Esaved_a0 (Esaved_m0 y) (kFin Tryz.prog Esaved_rs Tryz.f90)) (fun y => rc Esaved_c4 Esaved_a7 (Esaved_m1 y) (Esaved_K3 (fun st => rc Esaved_c0 Esaved_a0 st (kFin Tryz.prog Esaved_rs Tryz.f90)))) x := by kernel_rfl
theorem Esaved_qx (n : Nat) (x : ((List D_api_Rule) × (Int × Unit))) : codeK Tryz.prog Esaved_sp n (bodyOf Tryz.f90) Esaved_an (start Esaved_ps x (Func.ntmps Tryz.f90)) (kFin Tryz.prog Esaved_rs Tryz.f90) = Esaved n x := by
  have h0 : (fun y => codeK Tryz.prog Esaved_sp n Esaved_c0 Esaved_a0 (Esaved_m0 y) (kFin Tryz.prog Esaved_rs Tryz.f90)) = (Esaved_s0 n) := funext fun y => by
    have := Esaved_q0 n  y
    exact this
  have h1 : (fun y => codeK Tryz.prog Esaved_sp n Esaved_c4 Esaved_a7 (Esaved_m1 y) (Esaved_K3 (fun st => codeK Tryz.prog Esaved_sp n Esaved_c0 Esaved_a0 st (kFin Tryz.prog Esaved_rs Tryz.f90)))) = (Esaved_s1 n (Esaved_s0 n)) := funext fun y => by
    have := Esaved_q1 n (fun st => codeK Tryz.prog Esaved_sp n Esaved_c0 Esaved_a0 st (kFin Tryz.prog Esaved_rs Tryz.f90)) y
    rw [h0] at this; exact this
  rw [codeK_R, Esaved_ex]
  rw [h0]
  rw [h1]
  rfl
def Esaved_spec : Sp := ⟨Esaved_ps, Esaved_rs, Esaved⟩
theorem Esaved_ok : SoundX Tryz.prog CX 90 (.f Esaved_spec) := sound_of (look_cons Elahead_ok (look_cons Eorder_ok look_nil)) Tryz.func90 (by kernel_rfl) rfl Esaved_an Esaved_spec rfl rfl Esaved_qx

/-! ### noonmark/expand.From -/
abbrev EFrom_ps : Ty := (.pair (.list T_api_Rule) T_api_At)
abbrev EFrom_rs : Ty := (.pair (.list T_EFire) .unit)
abbrev EFrom_rr : Ty := .unit
def EFrom_sp : Specs := look [(85, .f Elfirst_spec), (86, .f Ellast_spec), (87, .f Elfire_spec), (89, .i sortFireS), (90, .f Esaved_spec)]
def EFrom_an : An := (.s .o (.s .o (.k [] [0,1,6] 1 (.k [] [0,1,2,6,19,20,21] 0 .o (.b (.l [(6, (.sl 0 T_EFire), 115)] [0,1,2,6,19,20,21] 1 (.s .o (.s .o (.k [] [0,1,2,6,19,20,21] 1 (.b (.s .o (.s .o (.k [] [0,1,2,6,7,9,10,19,20,21] 3 .o (.b (.l [] [0,1,2,6,7,9,10,19,20,21] 3 (.s .o (.k [] [0,1,2,6,7,9,10,19,20,21] 3 .o .o)))))))) .o)))))) (.s .o (.s .o (.k [] [6] 1 (.k [] [0,6,13,58,59] 1 .o (.b (.l [] [0,6,13,58,59] 1 .o))) .o))))))
abbrev EFrom_R := Option ((List D_EFire) × Unit)
noncomputable abbrev EFrom_c0 : Code := (cr (cr (cr (cr (cr (cr (bodyOf Tryz.f64)))))))
noncomputable abbrev EFrom_c1 : Code := (cl (cl (cr (cl (cr (cr (cr (cr (cr (bodyOf Tryz.f64))))))))))
noncomputable abbrev EFrom_c2 : Code := (cr (cl (cr (cr (cr (cr (cr (bodyOf Tryz.f64))))))))
noncomputable abbrev EFrom_c3 : Code := (cr (cr (cr (bodyOf Tryz.f64))))
noncomputable abbrev EFrom_c4 : Code := (cr (cr (cr (cl (cl (cr (cl (cr (cr (bodyOf Tryz.f64))))))))))
noncomputable abbrev EFrom_c5 : Code := (cr (cr (cl (cl (cr (cr (cr (cl (cl (cr (cr (cl (cl (cr (cl (cr (cr (bodyOf Tryz.f64))))))))))))))))))
noncomputable abbrev EFrom_c6 : Code := (cl (cl (cr (cr (cr (cl (cl (cr (cr (cl (cl (cr (cl (cr (cr (bodyOf Tryz.f64))))))))))))))))
noncomputable abbrev EFrom_c7 : Code := (cr (cr (cr (cl (cl (cr (cr (cl (cl (cr (cl (cr (cr (bodyOf Tryz.f64))))))))))))))
noncomputable abbrev EFrom_c8 : Code := (cl (cl (cr (cl (cr (cr (bodyOf Tryz.f64)))))))
noncomputable abbrev EFrom_c9 : Code := (cr (cl (cr (cr (bodyOf Tryz.f64)))))
noncomputable abbrev EFrom_a0 : An := EFrom_an.right.right.right.right.right.right
noncomputable abbrev EFrom_a1 : An := EFrom_an.right.right.right.right.right.left.right.left.left
noncomputable abbrev EFrom_a2 : An := EFrom_an.right.right.right.right.right
noncomputable abbrev EFrom_a3 : An := EFrom_an.right.right.right.right.right.left.right.left
noncomputable abbrev EFrom_a4 : An := EFrom_an.right.right.right.right.right.left.right
noncomputable abbrev EFrom_a5 : An := EFrom_an.right.right.right
noncomputable abbrev EFrom_a6 : An := EFrom_an.right.right.left.right.left.left.right.right.right
noncomputable abbrev EFrom_a7 : An := EFrom_an.right.right
noncomputable abbrev EFrom_a8 : An := EFrom_an.right.right.left.right.left
noncomputable abbrev EFrom_a9 : An := EFrom_an.right.right.left.right.left.left.right.right.left.left.right.right.right.left.left.right.right
noncomputable abbrev EFrom_a10 : An := EFrom_an.right.right.left.right.left.left.right.right
noncomputable abbrev EFrom_a11 : An := EFrom_an.right.right.left.right.left.left.right.right.left.left.right.right.right.left
noncomputable abbrev EFrom_a12 : An := EFrom_an.right.right.left.right.left.left.right.right.left.left.right.right.right.left.left
noncomputable abbrev EFrom_a13 : An := EFrom_an.right.right.left.right.left.left.right.right.left.left.right.right.right
noncomputable abbrev EFrom_a14 : An := EFrom_an.right.right.left.right.left.left
noncomputable abbrev EFrom_a15 : An := EFrom_an.right.right.left.right
noncomputable abbrev EFrom_K0 : Ex → St → EFrom_R := (kFinO Tryz.prog 115 T_EFire EFrom_rr Tryz.f64)
noncomputable abbrev EFrom_K1 (r8 k5 : St → EFrom_R) : Ex → St → EFrom_R := (kSeq r8 EFrom_a3 (kBlk 4 (kSeq k5 EFrom_a2 (kFinO Tryz.prog 115 T_EFire EFrom_rr Tryz.f64))))
noncomputable abbrev EFrom_K2 (k5 : St → EFrom_R) : Ex → St → EFrom_R := (kSeq k5 EFrom_a2 (kFinO Tryz.prog 115 T_EFire EFrom_rr Tryz.f64))
noncomputable abbrev EFrom_K3 : Ex → St → EFrom_R := (kFinO Tryz.prog 115 T_EFire EFrom_rr Tryz.f64)
noncomputable abbrev EFrom_K4 (r2 k0 : St → EFrom_R) : Ex → St → EFrom_R := (kSeq r2 EFrom_a8 (kBlk 0 (kSeq k0 EFrom_a7 (kFinO Tryz.prog 115 T_EFire EFrom_rr Tryz.f64))))
noncomputable abbrev EFrom_K5 (r7 k3 r2 k0 : St → EFrom_R) : Ex → St → EFrom_R := (kSeq r7 EFrom_a11 (kBlk 2 (kBlk 1 (kSeq k3 EFrom_a10 (kSeq r2 EFrom_a8 (kBlk 0 (kSeq k0 EFrom_a7 (kFinO Tryz.prog 115 T_EFire EFrom_rr Tryz.f64))))))))
noncomputable abbrev EFrom_K6 (r7 k3 r2 k0 : St → EFrom_R) : Ex → St → EFrom_R := (kSeq r7 EFrom_a11 (kBlk 2 (kBlk 1 (kSeq k3 EFrom_a10 (kSeq r2 EFrom_a8 (kBlk 0 (kSeq k0 EFrom_a7 (kFinO Tryz.prog 115 T_EFire EFrom_rr Tryz.f64))))))))
noncomputable abbrev EFrom_K7 (k3 r2 k0 : St → EFrom_R) : Ex → St → EFrom_R := (kBlk 1 (kSeq k3 EFrom_a10 (kSeq r2 EFrom_a8 (kBlk 0 (kSeq k0 EFrom_a7 (kFinO Tryz.prog 115 T_EFire EFrom_rr Tryz.f64))))))
noncomputable abbrev EFrom_K8 (r2 k0 : St → EFrom_R) : Ex → St → EFrom_R := (kSeq r2 EFrom_a8 (kBlk 0 (kSeq k0 EFrom_a7 (kFinO Tryz.prog 115 T_EFire EFrom_rr Tryz.f64))))
noncomputable abbrev EFrom_K9 (k0 : St → EFrom_R) : Ex → St → EFrom_R := (kSeq k0 EFrom_a7 (kFinO Tryz.prog 115 T_EFire EFrom_rr Tryz.f64))
noncomputable abbrev EFrom_K10 : Ex → St → EFrom_R := (kFinO Tryz.prog 115 T_EFire EFrom_rr Tryz.f64)
abbrev EFrom_t0 := (List D_api_Rule) × Int × (List D_EFire)
def EFrom_m0 (z : EFrom_t0) : St := ⟨(.v ⟨(.list T_api_Rule), z.1⟩ :: .v ⟨(.int .i64), z.2.1⟩ :: jk 4 (.v ⟨(.sl 0 T_EFire), ()⟩ :: jk 71 [])), [some (.arr 115 T_EFire z.2.2)]⟩
abbrev EFrom_t1 := (List D_api_Rule) × Int × Int × (List D_api_Rule) × Int × Int
def EFrom_m1 (z : EFrom_t1) : St := ⟨(.v ⟨(.list T_api_Rule), z.1⟩ :: .v ⟨(.int .i64), z.2.1⟩ :: .v ⟨(.int .i64), z.2.2.1⟩ :: jk 3 (.v ⟨(.nl T_EFire), ()⟩ :: jk 12 (.v ⟨(.list T_api_Rule), z.2.2.2.1⟩ :: .v ⟨(.int .i64), z.2.2.2.2.1⟩ :: .v ⟨(.int .i64), z.2.2.2.2.2⟩ :: jk 56 []))), []⟩
abbrev EFrom_t2 := (List D_api_Rule) × Int × Int × (List D_api_Rule) × Int × Int × (List D_EFire)
def EFrom_m2 (z : EFrom_t2) : St := ⟨(.v ⟨(.list T_api_Rule), z.1⟩ :: .v ⟨(.int .i64), z.2.1⟩ :: .v ⟨(.int .i64), z.2.2.1⟩ :: jk 3 (.v ⟨(.sl 0 T_EFire), ()⟩ :: jk 12 (.v ⟨(.list T_api_Rule), z.2.2.2.1⟩ :: .v ⟨(.int .i64), z.2.2.2.2.1⟩ :: .v ⟨(.int .i64), z.2.2.2.2.2.1⟩ :: jk 56 []))), [some (.arr 115 T_EFire z.2.2.2.2.2.2)]⟩
abbrev EFrom_t3 := (List D_api_Rule) × Int × Int × (List D_api_Rule) × Int × Int × (List D_EFire)
def EFrom_m3 (z : EFrom_t3) : St := ⟨(.v ⟨(.list T_api_Rule), z.1⟩ :: .v ⟨(.int .i64), z.2.1⟩ :: .v ⟨(.int .i64), z.2.2.1⟩ :: jk 3 (.v ⟨(.sl 0 T_EFire), ()⟩ :: jk 12 (.v ⟨(.list T_api_Rule), z.2.2.2.1⟩ :: .v ⟨(.int .i64), z.2.2.2.2.1⟩ :: .v ⟨(.int .i64), z.2.2.2.2.2.1⟩ :: jk 56 []))), [some (.arr 115 T_EFire z.2.2.2.2.2.2)]⟩
abbrev EFrom_t4 := (List D_api_Rule) × Int × Int × Int × Int × (List D_api_Rule) × Int × Int × (List D_EFire) × D_api_Rule × D_api_Rule
def EFrom_m4 (z : EFrom_t4) : St := ⟨(.v ⟨(.list T_api_Rule), z.1⟩ :: .v ⟨(.int .i64), z.2.1⟩ :: .v ⟨(.int .i64), z.2.2.1⟩ :: jk 3 (.v ⟨(.sl 0 T_EFire), ()⟩ :: .v ⟨(.int .i64), z.2.2.2.1⟩ :: .junk :: .v ⟨(.ptr 2 0 T_api_Rule), ()⟩ :: .v ⟨(.int .i64), z.2.2.2.2.1⟩ :: jk 8 (.v ⟨(.list T_api_Rule), z.2.2.2.2.2.1⟩ :: .v ⟨(.int .i64), z.2.2.2.2.2.2.1⟩ :: .v ⟨(.int .i64), z.2.2.2.2.2.2.2.1⟩ :: jk 56 []))), [some (.arr 115 T_EFire z.2.2.2.2.2.2.2.2.1), some (.one ⟨T_api_Rule, z.2.2.2.2.2.2.2.2.2.1⟩), some (.one ⟨T_api_Rule, z.2.2.2.2.2.2.2.2.2.2⟩)]⟩
abbrev EFrom_t5 := (List D_EFire)
def EFrom_m5 (z : EFrom_t5) : St := ⟨(jk 6 (.v ⟨(.sl 0 T_EFire), ()⟩ :: jk 71 [])), [some (.arr 115 T_EFire z)]⟩
abbrev EFrom_t6 := (List D_api_Rule) × Int × Int × Int × (List D_EFire)
def EFrom_m6 (z : EFrom_t6) : St := ⟨(.v ⟨(.list T_api_Rule), z.1⟩ :: jk 5 (.v ⟨(.sl 0 T_EFire), ()⟩ :: jk 6 (.v ⟨(.int .i64), z.2.1⟩ :: jk 44 (.v ⟨(.int .i64), z.2.2.1⟩ :: .v ⟨(.int .i64), z.2.2.2.1⟩ :: jk 18 [])))), [some (.arr 115 T_EFire z.2.2.2.2)]⟩
abbrev EFrom_t7 := (List D_api_Rule) × Int × Int × Int × Int × (List D_api_Rule) × Int × Int × (List D_EFire) × D_api_Rule × D_api_Rule
def EFrom_m7 (z : EFrom_t7) : St := ⟨(.v ⟨(.list T_api_Rule), z.1⟩ :: .v ⟨(.int .i64), z.2.1⟩ :: .v ⟨(.int .i64), z.2.2.1⟩ :: jk 3 (.v ⟨(.sl 0 T_EFire), ()⟩ :: .v ⟨(.int .i64), z.2.2.2.1⟩ :: .junk :: .v ⟨(.ptr 2 0 T_api_Rule), ()⟩ :: .v ⟨(.int .i64), z.2.2.2.2.1⟩ :: jk 8 (.v ⟨(.list T_api_Rule), z.2.2.2.2.2.1⟩ :: .v ⟨(.int .i64), z.2.2.2.2.2.2.1⟩ :: .v ⟨(.int .i64), z.2.2.2.2.2.2.2.1⟩ :: jk 56 []))), [some (.arr 115 T_EFire z.2.2.2.2.2.2.2.2.1), some (.one ⟨T_api_Rule, z.2.2.2.2.2.2.2.2.2.1⟩), some (.one ⟨T_api_Rule, z.2.2.2.2.2.2.2.2.2.2⟩)]⟩
abbrev EFrom_t8 := (List D_api_Rule) × Int × Int × Int × (List D_EFire)
def EFrom_m8 (z : EFrom_t8) : St := ⟨(.v ⟨(.list T_api_Rule), z.1⟩ :: jk 5 (.v ⟨(.sl 0 T_EFire), ()⟩ :: jk 6 (.v ⟨(.int .i64), z.2.1⟩ :: jk 44 (.v ⟨(.int .i64), z.2.2.1⟩ :: .v ⟨(.int .i64), z.2.2.2.1⟩ :: jk 18 [])))), [some (.arr 115 T_EFire z.2.2.2.2)]⟩
abbrev EFrom_t9 := (List D_api_Rule) × Int × Int × Int × Int × (List D_api_Rule) × Int × Int × (List D_EFire) × D_api_Rule × D_api_Rule
def EFrom_m9 (z : EFrom_t9) : St := ⟨(.v ⟨(.list T_api_Rule), z.1⟩ :: .v ⟨(.int .i64), z.2.1⟩ :: .v ⟨(.int .i64), z.2.2.1⟩ :: jk 3 (.v ⟨(.sl 0 T_EFire), ()⟩ :: .v ⟨(.int .i64), z.2.2.2.1⟩ :: .junk :: .v ⟨(.ptr 2 0 T_api_Rule), ()⟩ :: .v ⟨(.int .i64), z.2.2.2.2.1⟩ :: jk 8 (.v ⟨(.list T_api_Rule), z.2.2.2.2.2.1⟩ :: .v ⟨(.int .i64), z.2.2.2.2.2.2.1⟩ :: .v ⟨(.int .i64), z.2.2.2.2.2.2.2.1⟩ :: jk 56 []))), [some (.arr 115 T_EFire z.2.2.2.2.2.2.2.2.1), some (.one ⟨T_api_Rule, z.2.2.2.2.2.2.2.2.2.1⟩), some (.one ⟨T_api_Rule, z.2.2.2.2.2.2.2.2.2.2⟩)]⟩
def EFrom_p5 (_n : Nat) (z : EFrom_t5) : EFrom_R :=
  some (z, ())
def EFrom_s5 (n : Nat) (z : EFrom_t5) : EFrom_R := EFrom_p5 n z
theorem EFrom_e5 (n : Nat) (rc : RC EFrom_R) (z : EFrom_t5) : codeR rc Tryz.prog EFrom_sp n EFrom_c0 EFrom_a0 (EFrom_m5 z) EFrom_K0 = EFrom_p5 n z := by kernel_rfl
theorem EFrom_q5 (n : Nat) (z : EFrom_t5) : codeK Tryz.prog EFrom_sp n EFrom_c0 EFrom_a0 (EFrom_m5 z) EFrom_K0 = EFrom_s5 n z := by
  rw [codeK_R, EFrom_e5]
  rfl
def EFrom_p8 (_n : Nat) (k5 : EFrom_t5 → EFrom_R) (r8 : EFrom_t8 → EFrom_R) (z : EFrom_t8) : EFrom_R :=
  bif (decide (z.2.2.2.1 < z.2.2.1)) then
    bif decide (0 ≤ z.2.2.2.1 ∧ z.2.2.2.1 < (List.length z.2.2.2.2 : Int)) then
      ((z.2.2.2.2[(Int.toNat z.2.2.2.1)]?)).bind fun e15 =>
      bif decide (0 ≤ e15.1) then
        ((z.1[Int.toNat e15.1]?)).bind fun e16 =>
        bif decide (0 ≤ z.2.2.2.1 ∧ z.2.2.2.1 < (List.length z.2.2.2.2 : Int)) then
          ((z.2.2.2.2[(Int.toNat z.2.2.2.1)]?)).bind fun e18 =>
          r8 (z.1, e16.2.2.2.2.2.2.1, z.2.2.1, (w64 (z.2.2.2.1 + 1)), (List.set z.2.2.2.2 (Int.toNat z.2.2.2.1) (e18.1, (e18.2.1, (e18.2.2.1, (z.2.1, e18.2.2.2.2))))))
        else none
      else none
    else none
  else
    k5 z.2.2.2.2
def EFrom_s8 (n : Nat) (k5 : EFrom_t5 → EFrom_R) (r8 : EFrom_t8 → EFrom_R) (z : EFrom_t8) : EFrom_R := EFrom_p8 n k5 r8 z
theorem EFrom_e8 (n : Nat) (k5 : St → EFrom_R) (r8 : St → EFrom_R) (rc : RC EFrom_R) (z : EFrom_t8) : codeR rc Tryz.prog EFrom_sp n EFrom_c1 EFrom_a1 (EFrom_m8 z) (EFrom_K1 r8 k5) = EFrom_p8 n (fun y => k5 (EFrom_m5 y)) (fun y => r8 (EFrom_m8 y)) z := by kernel_rfl
theorem EFrom_q8 (n : Nat) (k5 : St → EFrom_R) (r8 : St → EFrom_R) (z : EFrom_t8) : codeK Tryz.prog EFrom_sp n EFrom_c1 EFrom_a1 (EFrom_m8 z) (EFrom_K1 r8 k5) = EFrom_s8 n (fun y => k5 (EFrom_m5 y)) (fun y => r8 (EFrom_m8 y)) z := by
  rw [codeK_R, EFrom_e8]
  rfl
def EFrom_s6 (n : Nat) (k5 : EFrom_t5 → EFrom_R) (z : EFrom_t6) : EFrom_R :=
  rounds (fun r8 x' => EFrom_s8 n k5 r8 x') n (z.1, z.2.1, z.2.2.1, z.2.2.2.1, z.2.2.2.2)
theorem EFrom_q6 (n : Nat) (k5 : St → EFrom_R) (z : EFrom_t6) : codeK Tryz.prog EFrom_sp n EFrom_c2 EFrom_a4 (EFrom_m6 z) (EFrom_K2 k5) = EFrom_s6 n (fun y => k5 (EFrom_m5 y)) z :=
  Eq.trans (b := rounds (fun r8 st => codeK Tryz.prog EFrom_sp n EFrom_c1 EFrom_a1 st (EFrom_K1 r8 k5)) n (EFrom_m8 (z.1, z.2.1, z.2.2.1, z.2.2.2.1, z.2.2.2.2))) (by kernel_rfl) (rounds_mk EFrom_m8 (fun r8 x' => by
    have := (EFrom_q8 n k5 r8 x')
    exact this) n _)
def EFrom_p0 (n : Nat) (k5 : EFrom_t5 → EFrom_R) (k6 : EFrom_t6 → EFrom_R) (z : EFrom_t0) : EFrom_R :=
  ((sortFireF n z.2.2 ((), ()))).bind fun s6 =>
  ((Esaved n (z.1, (z.2.1, ())))).bind fun v7 =>
  k6 (z.1, v7.1, (List.length s6 : Int), (0 : Int), s6)
def EFrom_s0 (n : Nat) (z : EFrom_t0) : EFrom_R := EFrom_p0 n (EFrom_s5 n) (EFrom_s6 n (EFrom_s5 n)) z
theorem EFrom_e0 (n : Nat) (rc : RC EFrom_R) (z : EFrom_t0) : codeR rc Tryz.prog EFrom_sp n EFrom_c3 EFrom_a5 (EFrom_m0 z) EFrom_K3 = EFrom_p0 n (fun y => rc EFrom_c0 EFrom_a0 (EFrom_m5 y) EFrom_K0) (fun y => rc EFrom_c2 EFrom_a4 (EFrom_m6 y) (EFrom_K2 (fun st => rc EFrom_c0 EFrom_a0 st EFrom_K0))) z := by kernel_rfl
theorem EFrom_q0 (n : Nat) (z : EFrom_t0) : codeK Tryz.prog EFrom_sp n EFrom_c3 EFrom_a5 (EFrom_m0 z) EFrom_K3 = EFrom_s0 n z := by
  have h5 : (fun y => codeK Tryz.prog EFrom_sp n EFrom_c0 EFrom_a0 (EFrom_m5 y) EFrom_K0) = (EFrom_s5 n) := funext fun y => by
    have := EFrom_q5 n  y
    exact this
  have h6 : (fun y => codeK Tryz.prog EFrom_sp n EFrom_c2 EFrom_a4 (EFrom_m6 y) (EFrom_K2 (fun st => codeK Tryz.prog EFrom_sp n EFrom_c0 EFrom_a0 st EFrom_K0))) = (EFrom_s6 n (EFrom_s5 n)) := funext fun y => by
    have := EFrom_q6 n (fun st => codeK Tryz.prog EFrom_sp n EFrom_c0 EFrom_a0 st EFrom_K0) y
    rw [h5] at this; exact this
  rw [codeK_R, EFrom_e0]
  rw [h5]
  rw [h6]
  rfl
def EFrom_p3 (_n : Nat) (_k0 : EFrom_t0 → EFrom_R) (r2 : EFrom_t2 → EFrom_R) (z : EFrom_t3) : EFrom_R :=
  r2 (z.1, z.2.1, z.2.2.1, z.2.2.2.1, z.2.2.2.2.1, (w64 (z.2.2.2.2.2.1 + 1)), z.2.2.2.2.2.2)
def EFrom_s3 (n : Nat) (k0 : EFrom_t0 → EFrom_R) (r2 : EFrom_t2 → EFrom_R) (z : EFrom_t3) : EFrom_R := EFrom_p3 n k0 r2 z
theorem EFrom_e3 (n : Nat) (k0 : St → EFrom_R) (r2 : St → EFrom_R) (rc : RC EFrom_R) (z : EFrom_t3) : codeR rc Tryz.prog EFrom_sp n EFrom_c4 EFrom_a6 (EFrom_m3 z) (EFrom_K4 r2 k0) = EFrom_p3 n (fun y => k0 (EFrom_m0 y)) (fun y => r2 (EFrom_m2 y)) z := by kernel_rfl
theorem EFrom_q3 (n : Nat) (k0 : St → EFrom_R) (r2 : St → EFrom_R) (z : EFrom_t3) : codeK Tryz.prog EFrom_sp n EFrom_c4 EFrom_a6 (EFrom_m3 z) (EFrom_K4 r2 k0) = EFrom_s3 n (fun y => k0 (EFrom_m0 y)) (fun y => r2 (EFrom_m2 y)) z := by
  rw [codeK_R, EFrom_e3]
  rfl
def EFrom_p9 (_n : Nat) (_k0 : EFrom_t0 → EFrom_R) (_r2 : EFrom_t2 → EFrom_R) (_k3 : EFrom_t3 → EFrom_R) (r7 : EFrom_t7 → EFrom_R) (z : EFrom_t9) : EFrom_R :=
  r7 (z.1, z.2.1, z.2.2.1, z.2.2.2.1, (w64 (z.2.2.2.2.1 + 1)), z.2.2.2.2.2.1, z.2.2.2.2.2.2.1, z.2.2.2.2.2.2.2.1, z.2.2.2.2.2.2.2.2.1, z.2.2.2.2.2.2.2.2.2.1, z.2.2.2.2.2.2.2.2.2.2)
def EFrom_s9 (n : Nat) (k0 : EFrom_t0 → EFrom_R) (r2 : EFrom_t2 → EFrom_R) (k3 : EFrom_t3 → EFrom_R) (r7 : EFrom_t7 → EFrom_R) (z : EFrom_t9) : EFrom_R := EFrom_p9 n k0 r2 k3 r7 z
theorem EFrom_e9 (n : Nat) (k0 : St → EFrom_R) (r2 : St → EFrom_R) (k3 : St → EFrom_R) (r7 : St → EFrom_R) (rc : RC EFrom_R) (z : EFrom_t9) : codeR rc Tryz.prog EFrom_sp n EFrom_c5 EFrom_a9 (EFrom_m9 z) (EFrom_K5 r7 k3 r2 k0) = EFrom_p9 n (fun y => k0 (EFrom_m0 y)) (fun y => r2 (EFrom_m2 y)) (fun y => k3 (EFrom_m3 y)) (fun y => r7 (EFrom_m7 y)) z := by kernel_rfl
theorem EFrom_q9 (n : Nat) (k0 : St → EFrom_R) (r2 : St → EFrom_R) (k3 : St → EFrom_R) (r7 : St → EFrom_R) (z : EFrom_t9) : codeK Tryz.prog EFrom_sp n EFrom_c5 EFrom_a9 (EFrom_m9 z) (EFrom_K5 r7 k3 r2 k0) = EFrom_s9 n (fun y => k0 (EFrom_m0 y)) (fun y => r2 (EFrom_m2 y)) (fun y => k3 (EFrom_m3 y)) (fun y => r7 (EFrom_m7 y)) z := by
  rw [codeK_R, EFrom_e9]
  rfl
def EFrom_p7 (n : Nat) (_k0 : EFrom_t0 → EFrom_R) (_r2 : EFrom_t2 → EFrom_R) (k3 : EFrom_t3 → EFrom_R) (_r7 : EFrom_t7 → EFrom_R) (k9 : EFrom_t9 → EFrom_R) (z : EFrom_t7) : EFrom_R :=
  ((Ellast n (z.2.2.2.2.2.2.2.2.2.2, ()))).bind fun v8 =>
  bif (decide (z.2.2.2.2.1 ≤ (imin z.2.2.1 v8.1))) then
    ((Elfire n (z.2.2.2.2.2.2.2.2.2.2, (z.2.2.2.1, (z.2.2.2.2.1, ()))))).bind fun v10 =>
    bif v10.2.1 then
      let t11 := (v10.1 :: [])
      bif decide ((List.length z.2.2.2.2.2.2.2.2.1 + List.length t11) * (32 + 1) ≤ 140737488355328) then
        k9 (z.1, z.2.1, z.2.2.1, z.2.2.2.1, z.2.2.2.2.1, z.2.2.2.2.2.1, z.2.2.2.2.2.2.1, z.2.2.2.2.2.2.2.1, (z.2.2.2.2.2.2.2.2.1 ++ t11), z.2.2.2.2.2.2.2.2.2.1, z.2.2.2.2.2.2.2.2.2.2)
      else none
    else
      k9 (z.1, z.2.1, z.2.2.1, z.2.2.2.1, z.2.2.2.2.1, z.2.2.2.2.2.1, z.2.2.2.2.2.2.1, z.2.2.2.2.2.2.2.1, z.2.2.2.2.2.2.2.2.1, z.2.2.2.2.2.2.2.2.2.1, z.2.2.2.2.2.2.2.2.2.2)
  else
    k3 (z.1, z.2.1, z.2.2.1, z.2.2.2.2.2.1, z.2.2.2.2.2.2.1, z.2.2.2.2.2.2.2.1, z.2.2.2.2.2.2.2.2.1)
def EFrom_s7 (n : Nat) (k0 : EFrom_t0 → EFrom_R) (r2 : EFrom_t2 → EFrom_R) (k3 : EFrom_t3 → EFrom_R) (r7 : EFrom_t7 → EFrom_R) (z : EFrom_t7) : EFrom_R := EFrom_p7 n k0 r2 k3 r7 (EFrom_s9 n k0 r2 k3 r7) z
theorem EFrom_e7 (n : Nat) (k0 : St → EFrom_R) (r2 : St → EFrom_R) (k3 : St → EFrom_R) (r7 : St → EFrom_R) (rc : RC EFrom_R) (z : EFrom_t7) : codeR rc Tryz.prog EFrom_sp n EFrom_c6 EFrom_a12 (EFrom_m7 z) (EFrom_K6 r7 k3 r2 k0) = EFrom_p7 n (fun y => k0 (EFrom_m0 y)) (fun y => r2 (EFrom_m2 y)) (fun y => k3 (EFrom_m3 y)) (fun y => r7 (EFrom_m7 y)) (fun y => rc EFrom_c5 EFrom_a9 (EFrom_m9 y) (EFrom_K5 r7 k3 r2 k0)) z := by kernel_rfl
theorem EFrom_q7 (n : Nat) (k0 : St → EFrom_R) (r2 : St → EFrom_R) (k3 : St → EFrom_R) (r7 : St → EFrom_R) (z : EFrom_t7) : codeK Tryz.prog EFrom_sp n EFrom_c6 EFrom_a12 (EFrom_m7 z) (EFrom_K6 r7 k3 r2 k0) = EFrom_s7 n (fun y => k0 (EFrom_m0 y)) (fun y => r2 (EFrom_m2 y)) (fun y => k3 (EFrom_m3 y)) (fun y => r7 (EFrom_m7 y)) z := by
  have h9 : (fun y => codeK Tryz.prog EFrom_sp n EFrom_c5 EFrom_a9 (EFrom_m9 y) (EFrom_K5 r7 k3 r2 k0)) = (EFrom_s9 n (fun y => k0 (EFrom_m0 y)) (fun y => r2 (EFrom_m2 y)) (fun y => k3 (EFrom_m3 y)) (fun y => r7 (EFrom_m7 y))) := funext fun y => by
    have := EFrom_q9 n k0 r2 k3 r7 y
    exact this
  rw [codeK_R, EFrom_e7]
  rw [h9]
  rfl
def EFrom_s4 (n : Nat) (k0 : EFrom_t0 → EFrom_R) (r2 : EFrom_t2 → EFrom_R) (k3 : EFrom_t3 → EFrom_R) (z : EFrom_t4) : EFrom_R :=
  rounds (fun r7 x' => EFrom_s7 n k0 r2 k3 r7 x') n (z.1, z.2.1, z.2.2.1, z.2.2.2.1, z.2.2.2.2.1, z.2.2.2.2.2.1, z.2.2.2.2.2.2.1, z.2.2.2.2.2.2.2.1, z.2.2.2.2.2.2.2.2.1, z.2.2.2.2.2.2.2.2.2.1, z.2.2.2.2.2.2.2.2.2.2)
theorem EFrom_q4 (n : Nat) (k0 : St → EFrom_R) (r2 : St → EFrom_R) (k3 : St → EFrom_R) (z : EFrom_t4) : codeK Tryz.prog EFrom_sp n EFrom_c7 EFrom_a13 (EFrom_m4 z) (EFrom_K7 k3 r2 k0) = EFrom_s4 n (fun y => k0 (EFrom_m0 y)) (fun y => r2 (EFrom_m2 y)) (fun y => k3 (EFrom_m3 y)) z :=
  Eq.trans (b := rounds (fun r7 st => codeK Tryz.prog EFrom_sp n EFrom_c6 EFrom_a12 st (EFrom_K6 r7 k3 r2 k0)) n (EFrom_m7 (z.1, z.2.1, z.2.2.1, z.2.2.2.1, z.2.2.2.2.1, z.2.2.2.2.2.1, z.2.2.2.2.2.2.1, z.2.2.2.2.2.2.2.1, z.2.2.2.2.2.2.2.2.1, z.2.2.2.2.2.2.2.2.2.1, z.2.2.2.2.2.2.2.2.2.2))) (by kernel_rfl) (rounds_mk EFrom_m7 (fun r7 x' => by
    have := (EFrom_q7 n k0 r2 k3 r7 x')
    exact this) n _)
def EFrom_p2 (n : Nat) (k0 : EFrom_t0 → EFrom_R) (_r2 : EFrom_t2 → EFrom_R) (k3 : EFrom_t3 → EFrom_R) (k4 : EFrom_t4 → EFrom_R) (z : EFrom_t2) : EFrom_R :=
  bif (decide (z.2.2.2.2.2.1 < z.2.2.2.2.1)) then
    bif decide (0 ≤ z.2.2.2.2.2.1) then
      ((z.2.2.2.1[Int.toNat z.2.2.2.2.2.1]?)).bind fun e3 =>
      ((Elfirst n (e3, ()))).bind fun v4 =>
      k4 (z.1, z.2.1, z.2.2.1, z.2.2.2.2.2.1, (imax z.2.1 v4.1), z.2.2.2.1, z.2.2.2.2.1, z.2.2.2.2.2.1, z.2.2.2.2.2.2, e3, e3)
    else none
  else
    k0 (z.1, z.2.1, z.2.2.2.2.2.2)
def EFrom_s2 (n : Nat) (k0 : EFrom_t0 → EFrom_R) (r2 : EFrom_t2 → EFrom_R) (z : EFrom_t2) : EFrom_R := EFrom_p2 n k0 r2 (EFrom_s3 n k0 r2) (EFrom_s4 n k0 r2 (EFrom_s3 n k0 r2)) z
theorem EFrom_e2 (n : Nat) (k0 : St → EFrom_R) (r2 : St → EFrom_R) (rc : RC EFrom_R) (z : EFrom_t2) : codeR rc Tryz.prog EFrom_sp n EFrom_c8 EFrom_a14 (EFrom_m2 z) (EFrom_K8 r2 k0) = EFrom_p2 n (fun y => k0 (EFrom_m0 y)) (fun y => r2 (EFrom_m2 y)) (fun y => rc EFrom_c4 EFrom_a6 (EFrom_m3 y) (EFrom_K4 r2 k0)) (fun y => rc EFrom_c7 EFrom_a13 (EFrom_m4 y) (EFrom_K7 (fun st => rc EFrom_c4 EFrom_a6 st (EFrom_K4 r2 k0)) r2 k0)) z := by kernel_rfl
theorem EFrom_q2 (n : Nat) (k0 : St → EFrom_R) (r2 : St → EFrom_R) (z : EFrom_t2) : codeK Tryz.prog EFrom_sp n EFrom_c8 EFrom_a14 (EFrom_m2 z) (EFrom_K8 r2 k0) = EFrom_s2 n (fun y => k0 (EFrom_m0 y)) (fun y => r2 (EFrom_m2 y)) z := by
  have h3 : (fun y => codeK Tryz.prog EFrom_sp n EFrom_c4 EFrom_a6 (EFrom_m3 y) (EFrom_K4 r2 k0)) = (EFrom_s3 n (fun y => k0 (EFrom_m0 y)) (fun y => r2 (EFrom_m2 y))) := funext fun y => by
    have := EFrom_q3 n k0 r2 y
    exact this
  have h4 : (fun y => codeK Tryz.prog EFrom_sp n EFrom_c7 EFrom_a13 (EFrom_m4 y) (EFrom_K7 (fun st => codeK Tryz.prog EFrom_sp n EFrom_c4 EFrom_a6 st (EFrom_K4 r2 k0)) r2 k0)) = (EFrom_s4 n (fun y => k0 (EFrom_m0 y)) (fun y => r2 (EFrom_m2 y)) (EFrom_s3 n (fun y => k0 (EFrom_m0 y)) (fun y => r2 (EFrom_m2 y)))) := funext fun y => by
    have := EFrom_q4 n k0 r2 (fun st => codeK Tryz.prog EFrom_sp n EFrom_c4 EFrom_a6 st (EFrom_K4 r2 k0)) y
    rw [h3] at this; exact this
  rw [codeK_R, EFrom_e2]
  rw [h3]
  rw [h4]
  rfl
def EFrom_s1 (n : Nat) (k0 : EFrom_t0 → EFrom_R) (z : EFrom_t1) : EFrom_R :=
  rounds (fun r2 x' => EFrom_s2 n k0 r2 x') n (z.1, z.2.1, z.2.2.1, z.2.2.2.1, z.2.2.2.2.1, z.2.2.2.2.2, ([] : List D_EFire))
theorem EFrom_q1 (n : Nat) (k0 : St → EFrom_R) (z : EFrom_t1) : codeK Tryz.prog EFrom_sp n EFrom_c9 EFrom_a15 (EFrom_m1 z) (EFrom_K9 k0) = EFrom_s1 n (fun y => k0 (EFrom_m0 y)) z :=
  Eq.trans (b := rounds (fun r2 st => codeK Tryz.prog EFrom_sp n EFrom_c8 EFrom_a14 st (EFrom_K8 r2 k0)) n (EFrom_m2 (z.1, z.2.1, z.2.2.1, z.2.2.2.1, z.2.2.2.2.1, z.2.2.2.2.2, ([] : List D_EFire)))) (by kernel_rfl) (rounds_mk EFrom_m2 (fun r2 x' => by
    have := (EFrom_q2 n k0 r2 x')
    exact this) n _)
def EFrom_px (_n : Nat) (k0 : EFrom_t0 → EFrom_R) (k1 : EFrom_t1 → EFrom_R) (x : ((List D_api_Rule) × D_api_At)) : EFrom_R :=
  k1 (x.1, (imax x.2.1 (1 : Int)), (imin x.2.2.1 (9999 : Int)), x.1, (List.length x.1 : Int), (0 : Int))
def EFrom (n : Nat) (x : ((List D_api_Rule) × D_api_At)) : EFrom_R := EFrom_px n (EFrom_s0 n) (EFrom_s1 n (EFrom_s0 n)) x
theorem EFrom_ex (n : Nat) (rc : RC EFrom_R) (x : ((List D_api_Rule) × D_api_At)) : codeR rc Tryz.prog EFrom_sp n (bodyOf Tryz.f64) EFrom_an (start EFrom_ps x (Func.ntmps Tryz.f64)) EFrom_K10 = EFrom_px n (fun y => rc EFrom_c3 EFrom_a5 (EFrom_m0 y) EFrom_K3) (fun y => rc EFrom_c9 EFrom_a15 (EFrom_m1 y) (EFrom_K9 (fun st => rc EFrom_c3 EFrom_a5 st EFrom_K3))) x := by kernel_rfl
theorem EFrom_qx (n : Nat) (x : ((List D_api_Rule) × D_api_At)) : codeK Tryz.prog EFrom_sp n (bodyOf Tryz.f64) EFrom_an (start EFrom_ps x (Func.ntmps Tryz.f64)) EFrom_K10 = EFrom n x := by
  have h0 : (fun y => codeK Tryz.prog EFrom_sp n EFrom_c3 EFrom_a5 (EFrom_m0 y) EFrom_K3) = (EFrom_s0 n) := funext fun y => by
    have := EFrom_q0 n  y
    exact this
  have h1 : (fun y => codeK Tryz.prog EFrom_sp n EFrom_c9 EFrom_a15 (EFrom_m1 y) (EFrom_K9 (fun st => codeK Tryz.prog EFrom_sp n EFrom_c3 EFrom_a5 st EFrom_K3))) = (EFrom_s1 n (EFrom_s0 n)) := funext fun y => by
    have := EFrom_q1 n (fun st => codeK Tryz.prog EFrom_sp n EFrom_c3 EFrom_a5 st EFrom_K3) y
    rw [h0] at this; exact this
  rw [codeK_R, EFrom_ex]
  rw [h0]
  rw [h1]
  rfl
def EFrom_spec : SpO := ⟨EFrom_ps, 115, T_EFire, EFrom_rr, EFrom⟩
theorem EFrom_ok : SoundX Tryz.prog CX 64 (.o EFrom_spec) := sound_funO (look_cons Elfirst_ok (look_cons Ellast_ok (look_cons Elfire_ok (look_cons sortFire_ok (look_cons Esaved_ok look_nil))))) Tryz.func64 (by kernel_rfl) rfl EFrom_an EFrom_spec rfl rfl rfl EFrom_qx

/-! ### noonmark/expand.Instant -/
abbrev EInstant_ps : Ty := (.pair (.list T_api_Rule) (.pair T_EFire (.pair (.int .i64) .unit)))
abbrev EInstant_rs : Ty := (.pair (.int .i64) .unit)
def EInstant_sp : Specs := look []
def EInstant_an : An := (.s .o (.s .o (.k [] [2,4] 1 .o .o)))
abbrev EInstant_R := Option (Int × Unit)
noncomputable abbrev EInstant_c0 : Code := (cr (cr (cr (bodyOf Tryz.f65))))
noncomputable abbrev EInstant_a0 : An := EInstant_an.right.right.right
abbrev EInstant_t0 := Int × D_EFire
def EInstant_m0 (z : EInstant_t0) : St := ⟨(.junk :: .junk :: .v ⟨(.int .i64), z.1⟩ :: .junk :: .v ⟨(.ptr 0 0 T_EFire), ()⟩ :: jk 31 []), [some (.one ⟨T_EFire, z.2⟩)]⟩
def EInstant_p0 (_n : Nat) (z : EInstant_t0) : EInstant_R :=
  some ((w64 (z.2.2.2.1 - z.1)), ())
def EInstant_s0 (n : Nat) (z : EInstant_t0) : EInstant_R := EInstant_p0 n z
theorem EInstant_e0 (n : Nat) (rc : RC EInstant_R) (z : EInstant_t0) : codeR rc Tryz.prog EInstant_sp n EInstant_c0 EInstant_a0 (EInstant_m0 z) (kFin Tryz.prog EInstant_rs Tryz.f65) = EInstant_p0 n z := by kernel_rfl
theorem EInstant_q0 (n : Nat) (z : EInstant_t0) : codeK Tryz.prog EInstant_sp n EInstant_c0 EInstant_a0 (EInstant_m0 z) (kFin Tryz.prog EInstant_rs Tryz.f65) = EInstant_s0 n z := by
  rw [codeK_R, EInstant_e0]
  rfl
def EInstant_px (_n : Nat) (k0 : EInstant_t0 → EInstant_R) (x : ((List D_api_Rule) × (D_EFire × (Int × Unit)))) : EInstant_R :=
  bif (decide (x.2.1.1 < 0)) then
    some ((0 : Int), ())
  else
    bif (decide (x.2.1.1 ≥ (List.length x.1 : Int))) then
      some ((0 : Int), ())
    else
      bif decide (0 ≤ x.2.1.1) then
        ((x.1[Int.toNat x.2.1.1]?)).bind fun e1 =>
        bif (e1.2.2.2.2.2.1.2.1 == 0) then
          k0 ((w64 (x.2.2.1 + x.2.1.2.2.2.1)), x.2.1)
        else
          bif (e1.2.2.2.2.2.1.2.1 == 1) then
            k0 (x.2.2.1, x.2.1)
          else
            k0 ((0 : Int), x.2.1)
      else none
def EInstant (n : Nat) (x : ((List D_api_Rule) × (D_EFire × (Int × Unit)))) : EInstant_R := EInstant_px n (EInstant_s0 n) x
theorem EInstant_ex (n : Nat) (rc : RC EInstant_R) (x : ((List D_api_Rule) × (D_EFire × (Int × Unit)))) : codeR rc Tryz.prog EInstant_sp n (bodyOf Tryz.f65) EInstant_an (start EInstant_ps x (Func.ntmps Tryz.f65)) (kFin Tryz.prog EInstant_rs Tryz.f65) = EInstant_px n (fun y => rc EInstant_c0 EInstant_a0 (EInstant_m0 y) (kFin Tryz.prog EInstant_rs Tryz.f65)) x := by kernel_rfl
theorem EInstant_qx (n : Nat) (x : ((List D_api_Rule) × (D_EFire × (Int × Unit)))) : codeK Tryz.prog EInstant_sp n (bodyOf Tryz.f65) EInstant_an (start EInstant_ps x (Func.ntmps Tryz.f65)) (kFin Tryz.prog EInstant_rs Tryz.f65) = EInstant n x := by
  have h0 : (fun y => codeK Tryz.prog EInstant_sp n EInstant_c0 EInstant_a0 (EInstant_m0 y) (kFin Tryz.prog EInstant_rs Tryz.f65)) = (EInstant_s0 n) := funext fun y => by
    have := EInstant_q0 n  y
    exact this
  rw [codeK_R, EInstant_ex]
  rw [h0]
  rfl
def EInstant_spec : Sp := ⟨EInstant_ps, EInstant_rs, EInstant⟩
theorem EInstant_ok : SoundX Tryz.prog CX 65 (.f EInstant_spec) := sound_of look_nil Tryz.func65 (by kernel_rfl) rfl EInstant_an EInstant_spec rfl rfl EInstant_qx
end Go.Proofs.YtadamegddcadcaaGreatDoorPi
