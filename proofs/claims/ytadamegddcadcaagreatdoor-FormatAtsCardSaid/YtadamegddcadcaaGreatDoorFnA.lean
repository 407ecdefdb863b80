import Derived.Test.YtadamegddcadcaaGreatDoorPiB
import Derived.Test.YtadamegddcadcaaGreatDoorProg
set_option linter.unusedVariables false
set_option maxRecDepth 100000
set_option maxHeartbeats 4000000
set_option linter.unusedVariables false
namespace Go.Proofs.YtadamegddcadcaaGreatDoorPi
open Go Go.Proofs
def CX : Ctx := ⟨fun _ => True, fun _ _ => trivial, true⟩
abbrev T_api_At : Ty := (.pair (.int .i64) (.pair (.int .i64) .unit))
abbrev D_api_At := (Int × (Int × Unit))
abbrev T_api_Day : Ty := (.pair (.int .i64) T_api_At)
abbrev D_api_Day := (Int × D_api_At)
abbrev T_EFire : Ty := (.pair (.int .i64) T_api_Day)
abbrev D_EFire := (Int × D_api_Day)
/-! ### cmp.Or[int] -/
abbrev cmp_Or_int_ps : Ty := (.pair (.list (.int .i64)) .unit)
abbrev cmp_Or_int_rs : Ty := (.pair (.int .i64) .unit)
def cmp_Or_int_sp : Specs := look []
def cmp_Or_int_an : An := (.s .o (.s .o (.k [] [3] 0 (.k [] [3,6,7,8] 0 .o (.b (.l [] [3,6,7,8] 0 .o))) .o)))
abbrev cmp_Or_int_R := Option (Int × Unit)
noncomputable abbrev cmp_Or_int_c0 : Code := (cr (cr (cr (bodyOf Tryz.f103))))
noncomputable abbrev cmp_Or_int_c1 : Code := (cl (cl (cr (cl (cr (cr (bodyOf Tryz.f103)))))))
noncomputable abbrev cmp_Or_int_c2 : Code := (cr (cl (cr (cr (bodyOf Tryz.f103)))))
noncomputable abbrev cmp_Or_int_a0 : An := cmp_Or_int_an.right.right.right
noncomputable abbrev cmp_Or_int_a1 : An := cmp_Or_int_an.right.right.left.right.left.left
noncomputable abbrev cmp_Or_int_a2 : An := cmp_Or_int_an.right.right
noncomputable abbrev cmp_Or_int_a3 : An := cmp_Or_int_an.right.right.left.right.left
noncomputable abbrev cmp_Or_int_a4 : An := cmp_Or_int_an.right.right.left.right
noncomputable abbrev cmp_Or_int_K0 (r2 k0 : St → cmp_Or_int_R) : Ex → St → cmp_Or_int_R := (kSeq r2 cmp_Or_int_a3 (kBlk 0 (kSeq k0 cmp_Or_int_a2 (kFin Tryz.prog cmp_Or_int_rs Tryz.f103))))
noncomputable abbrev cmp_Or_int_K1 (k0 : St → cmp_Or_int_R) : Ex → St → cmp_Or_int_R := (kSeq k0 cmp_Or_int_a2 (kFin Tryz.prog cmp_Or_int_rs Tryz.f103))
abbrev cmp_Or_int_t0 := Int
def cmp_Or_int_m0 (z : cmp_Or_int_t0) : St := ⟨(jk 3 (.v ⟨(.int .i64), z⟩ :: jk 14 [])), []⟩
abbrev cmp_Or_int_t1 := Int × (List Int) × Int × Int
def cmp_Or_int_m1 (z : cmp_Or_int_t1) : St := ⟨(jk 3 (.v ⟨(.int .i64), z.1⟩ :: .junk :: .junk :: .v ⟨(.list (.int .i64)), z.2.1⟩ :: .v ⟨(.int .i64), z.2.2.1⟩ :: .v ⟨(.int .i64), z.2.2.2⟩ :: jk 9 [])), []⟩
abbrev cmp_Or_int_t2 := Int × (List Int) × Int × Int
def cmp_Or_int_m2 (z : cmp_Or_int_t2) : St := ⟨(jk 3 (.v ⟨(.int .i64), z.1⟩ :: .junk :: .junk :: .v ⟨(.list (.int .i64)), z.2.1⟩ :: .v ⟨(.int .i64), z.2.2.1⟩ :: .v ⟨(.int .i64), z.2.2.2⟩ :: jk 9 [])), []⟩
def cmp_Or_int_p0 (_n : Nat) (z : cmp_Or_int_t0) : cmp_Or_int_R :=
  some (z, ())
def cmp_Or_int_s0 (n : Nat) (z : cmp_Or_int_t0) : cmp_Or_int_R := cmp_Or_int_p0 n z
theorem cmp_Or_int_e0 (n : Nat) (rc : RC cmp_Or_int_R) (z : cmp_Or_int_t0) : codeR rc Tryz.prog cmp_Or_int_sp n cmp_Or_int_c0 cmp_Or_int_a0 (cmp_Or_int_m0 z) (kFin Tryz.prog cmp_Or_int_rs Tryz.f103) = cmp_Or_int_p0 n z := by kernel_rfl
theorem cmp_Or_int_q0 (n : Nat) (z : cmp_Or_int_t0) : codeK Tryz.prog cmp_Or_int_sp n cmp_Or_int_c0 cmp_Or_int_a0 (cmp_Or_int_m0 z) (kFin Tryz.prog cmp_Or_int_rs Tryz.f103) = cmp_Or_int_s0 n z := by
  rw [codeK_R, cmp_Or_int_e0]
  rfl
def cmp_Or_int_p2 (_n : Nat) (k0 : cmp_Or_int_t0 → cmp_Or_int_R) (r2 : cmp_Or_int_t2 → cmp_Or_int_R) (z : cmp_Or_int_t2) : cmp_Or_int_R :=
  bif (decide (z.2.2.2 < z.2.2.1)) then
    bif decide (0 ≤ z.2.2.2) then
      ((z.2.1[Int.toNat z.2.2.2]?)).bind fun e1 =>
      bif (e1 != z.1) then
        some (e1, ())
      else
        r2 (z.1, z.2.1, z.2.2.1, (w64 (z.2.2.2 + 1)))
    else none
  else
    k0 z.1
def cmp_Or_int_s2 (n : Nat) (k0 : cmp_Or_int_t0 → cmp_Or_int_R) (r2 : cmp_Or_int_t2 → cmp_Or_int_R) (z : cmp_Or_int_t2) : cmp_Or_int_R := cmp_Or_int_p2 n k0 r2 z
theorem cmp_Or_int_e2 (n : Nat) (k0 : St → cmp_Or_int_R) (r2 : St → cmp_Or_int_R) (rc : RC cmp_Or_int_R) (z : cmp_Or_int_t2) : codeR rc Tryz.prog cmp_Or_int_sp n cmp_Or_int_c1 cmp_Or_int_a1 (cmp_Or_int_m2 z) (cmp_Or_int_K0 r2 k0) = cmp_Or_int_p2 n (fun y => k0 (cmp_Or_int_m0 y)) (fun y => r2 (cmp_Or_int_m2 y)) z := by kernel_rfl
theorem cmp_Or_int_q2 (n : Nat) (k0 : St → cmp_Or_int_R) (r2 : St → cmp_Or_int_R) (z : cmp_Or_int_t2) : codeK Tryz.prog cmp_Or_int_sp n cmp_Or_int_c1 cmp_Or_int_a1 (cmp_Or_int_m2 z) (cmp_Or_int_K0 r2 k0) = cmp_Or_int_s2 n (fun y => k0 (cmp_Or_int_m0 y)) (fun y => r2 (cmp_Or_int_m2 y)) z := by
  rw [codeK_R, cmp_Or_int_e2]
  rfl
def cmp_Or_int_s1 (n : Nat) (k0 : cmp_Or_int_t0 → cmp_Or_int_R) (z : cmp_Or_int_t1) : cmp_Or_int_R :=
  rounds (fun r2 x' => cmp_Or_int_s2 n k0 r2 x') n (z.1, z.2.1, z.2.2.1, z.2.2.2)
theorem cmp_Or_int_q1 (n : Nat) (k0 : St → cmp_Or_int_R) (z : cmp_Or_int_t1) : codeK Tryz.prog cmp_Or_int_sp n cmp_Or_int_c2 cmp_Or_int_a4 (cmp_Or_int_m1 z) (cmp_Or_int_K1 k0) = cmp_Or_int_s1 n (fun y => k0 (cmp_Or_int_m0 y)) z :=
  Eq.trans (b := rounds (fun r2 st => codeK Tryz.prog cmp_Or_int_sp n cmp_Or_int_c1 cmp_Or_int_a1 st (cmp_Or_int_K0 r2 k0)) n (cmp_Or_int_m2 (z.1, z.2.1, z.2.2.1, z.2.2.2))) (by kernel_rfl) (rounds_mk cmp_Or_int_m2 (fun r2 x' => by
    have := (cmp_Or_int_q2 n k0 r2 x')
    exact this) n _)
def cmp_Or_int_px (_n : Nat) (k0 : cmp_Or_int_t0 → cmp_Or_int_R) (k1 : cmp_Or_int_t1 → cmp_Or_int_R) (x : ((List Int) × Unit)) : cmp_Or_int_R :=
  k1 ((0 : Int), x.1, (List.length x.1 : Int), (0 : Int))
def cmp_Or_int (n : Nat) (x : ((List Int) × Unit)) : cmp_Or_int_R := cmp_Or_int_px n (cmp_Or_int_s0 n) (cmp_Or_int_s1 n (cmp_Or_int_s0 n)) x
theorem cmp_Or_int_ex (n : Nat) (rc : RC cmp_Or_int_R) (x : ((List Int) × Unit)) : codeR rc Tryz.prog cmp_Or_int_sp n (bodyOf Tryz.f103) cmp_Or_int_an (start cmp_Or_int_ps x (Func.ntmps Tryz.f103)) (kFin Tryz.prog cmp_Or_int_rs Tryz.f103) = cmp_Or_int_px n (fun y => rc cmp_Or_int_c0 cmp_Or_int_a0 (cmp_Or_int_m0 y) (kFin Tryz.prog cmp_Or_int_rs Tryz.f103)) (fun y => rc cmp_Or_int_c2 cmp_Or_int_a4 (cmp_Or_int_m1 y) (cmp_Or_int_K1 (fun st => rc cmp_Or_int_c0 cmp_Or_int_a0 st (kFin Tryz.prog cmp_Or_int_rs Tryz.f103)))) x := by kernel_rfl
theorem cmp_Or_int_qx (n : Nat) (x : ((List Int) × Unit)) : codeK Tryz.prog cmp_Or_int_sp n (bodyOf Tryz.f103) cmp_Or_int_an (start cmp_Or_int_ps x (Func.ntmps Tryz.f103)) (kFin Tryz.prog cmp_Or_int_rs Tryz.f103) = cmp_Or_int n x := by
  have h0 : (fun y => codeK Tryz.prog cmp_Or_int_sp n cmp_Or_int_c0 cmp_Or_int_a0 (cmp_Or_int_m0 y) (kFin Tryz.prog cmp_Or_int_rs Tryz.f103)) = (cmp_Or_int_s0 n) := funext fun y => by
    have := cmp_Or_int_q0 n  y
    exact this
  have h1 : (fun y => codeK Tryz.prog cmp_Or_int_sp n cmp_Or_int_c2 cmp_Or_int_a4 (cmp_Or_int_m1 y) (cmp_Or_int_K1 (fun st => codeK Tryz.prog cmp_Or_int_sp n cmp_Or_int_c0 cmp_Or_int_a0 st (kFin Tryz.prog cmp_Or_int_rs Tryz.f103)))) = (cmp_Or_int_s1 n (cmp_Or_int_s0 n)) := funext fun y => by
    have := cmp_Or_int_q1 n (fun st => codeK Tryz.prog cmp_Or_int_sp n cmp_Or_int_c0 cmp_Or_int_a0 st (kFin Tryz.prog cmp_Or_int_rs Tryz.f103)) y
    rw [h0] at this; exact this
  rw [codeK_R, cmp_Or_int_ex]
  rw [h0]
  rw [h1]
  rfl
def cmp_Or_int_spec : Sp := ⟨cmp_Or_int_ps, cmp_Or_int_rs, cmp_Or_int⟩
theorem cmp_Or_int_ok : SoundX Tryz.prog CX 103 (.f cmp_Or_int_spec) := sound_of look_nil Tryz.func103 (by kernel_rfl) rfl cmp_Or_int_an cmp_Or_int_spec rfl rfl cmp_Or_int_qx

/-! ### cmp.isNaN[int] -/
abbrev cmp_isNaN_int_ps : Ty := (.pair (.int .i64) .unit)
abbrev cmp_isNaN_int_rs : Ty := (.pair .bool .unit)
def cmp_isNaN_int_sp : Specs := look []
def cmp_isNaN_int_an : An := .o
abbrev cmp_isNaN_int_R := Option (Bool × Unit)

def cmp_isNaN_int_px (_n : Nat) (x : (Int × Unit)) : cmp_isNaN_int_R :=
  some ((x.1 != x.1), ())
def cmp_isNaN_int (n : Nat) (x : (Int × Unit)) : cmp_isNaN_int_R := cmp_isNaN_int_px n x
theorem cmp_isNaN_int_ex (n : Nat) (rc : RC cmp_isNaN_int_R) (x : (Int × Unit)) : codeR rc Tryz.prog cmp_isNaN_int_sp n (bodyOf Tryz.f111) cmp_isNaN_int_an (start cmp_isNaN_int_ps x (Func.ntmps Tryz.f111)) (kFin Tryz.prog cmp_isNaN_int_rs Tryz.f111) = cmp_isNaN_int_px n x := by kernel_rfl
theorem cmp_isNaN_int_qx (n : Nat) (x : (Int × Unit)) : codeK Tryz.prog cmp_isNaN_int_sp n (bodyOf Tryz.f111) cmp_isNaN_int_an (start cmp_isNaN_int_ps x (Func.ntmps Tryz.f111)) (kFin Tryz.prog cmp_isNaN_int_rs Tryz.f111) = cmp_isNaN_int n x := by
  rw [codeK_R, cmp_isNaN_int_ex]
  rfl
def cmp_isNaN_int_spec : Sp := ⟨cmp_isNaN_int_ps, cmp_isNaN_int_rs, cmp_isNaN_int⟩
theorem cmp_isNaN_int_ok : SoundX Tryz.prog CX 111 (.f cmp_isNaN_int_spec) := sound_of look_nil Tryz.func111 (by kernel_rfl) rfl cmp_isNaN_int_an cmp_isNaN_int_spec rfl rfl cmp_isNaN_int_qx

/-! ### cmp.Compare[int] -/
abbrev cmp_Compare_int_ps : Ty := T_api_At
abbrev cmp_Compare_int_rs : Ty := (.pair (.int .i64) .unit)
def cmp_Compare_int_sp : Specs := look [(111, .f cmp_isNaN_int_spec)]
def cmp_Compare_int_an : An := .o
abbrev cmp_Compare_int_R := Option (Int × Unit)

def cmp_Compare_int_px (n : Nat) (x : D_api_At) : cmp_Compare_int_R :=
  ((cmp_isNaN_int n (x.1, ()))).bind fun v1 =>
  ((cmp_isNaN_int n (x.2.1, ()))).bind fun v2 =>
  bif v1.1 then
    bif v2.1 then
      some ((0 : Int), ())
    else
      some ((-1 : Int), ())
  else
    bif v2.1 then
      some ((1 : Int), ())
    else
      bif (decide (x.1 < x.2.1)) then
        some ((-1 : Int), ())
      else
        bif (decide (x.1 > x.2.1)) then
          some ((1 : Int), ())
        else
          some ((0 : Int), ())
def cmp_Compare_int (n : Nat) (x : D_api_At) : cmp_Compare_int_R := cmp_Compare_int_px n x
theorem cmp_Compare_int_ex (n : Nat) (rc : RC cmp_Compare_int_R) (x : D_api_At) : codeR rc Tryz.prog cmp_Compare_int_sp n (bodyOf Tryz.f104) cmp_Compare_int_an (start cmp_Compare_int_ps x (Func.ntmps Tryz.f104)) (kFin Tryz.prog cmp_Compare_int_rs Tryz.f104) = cmp_Compare_int_px n x := by kernel_rfl
theorem cmp_Compare_int_qx (n : Nat) (x : D_api_At) : codeK Tryz.prog cmp_Compare_int_sp n (bodyOf Tryz.f104) cmp_Compare_int_an (start cmp_Compare_int_ps x (Func.ntmps Tryz.f104)) (kFin Tryz.prog cmp_Compare_int_rs Tryz.f104) = cmp_Compare_int n x := by
  rw [codeK_R, cmp_Compare_int_ex]
  rfl
def cmp_Compare_int_spec : Sp := ⟨cmp_Compare_int_ps, cmp_Compare_int_rs, cmp_Compare_int⟩
theorem cmp_Compare_int_ok : SoundX Tryz.prog CX 104 (.f cmp_Compare_int_spec) := sound_of (look_cons cmp_isNaN_int_ok look_nil) Tryz.func104 (by kernel_rfl) rfl cmp_Compare_int_an cmp_Compare_int_spec rfl rfl cmp_Compare_int_qx

/-! ### cmp.isNaN[int64] -/
abbrev cmp_isNaN_int64_ps : Ty := (.pair (.int .i64) .unit)
abbrev cmp_isNaN_int64_rs : Ty := (.pair .bool .unit)
def cmp_isNaN_int64_sp : Specs := look []
def cmp_isNaN_int64_an : An := .o
abbrev cmp_isNaN_int64_R := Option (Bool × Unit)

def cmp_isNaN_int64_px (_n : Nat) (x : (Int × Unit)) : cmp_isNaN_int64_R :=
  some ((x.1 != x.1), ())
def cmp_isNaN_int64 (n : Nat) (x : (Int × Unit)) : cmp_isNaN_int64_R := cmp_isNaN_int64_px n x
theorem cmp_isNaN_int64_ex (n : Nat) (rc : RC cmp_isNaN_int64_R) (x : (Int × Unit)) : codeR rc Tryz.prog cmp_isNaN_int64_sp n (bodyOf Tryz.f112) cmp_isNaN_int64_an (start cmp_isNaN_int64_ps x (Func.ntmps Tryz.f112)) (kFin Tryz.prog cmp_isNaN_int64_rs Tryz.f112) = cmp_isNaN_int64_px n x := by kernel_rfl
theorem cmp_isNaN_int64_qx (n : Nat) (x : (Int × Unit)) : codeK Tryz.prog cmp_isNaN_int64_sp n (bodyOf Tryz.f112) cmp_isNaN_int64_an (start cmp_isNaN_int64_ps x (Func.ntmps Tryz.f112)) (kFin Tryz.prog cmp_isNaN_int64_rs Tryz.f112) = cmp_isNaN_int64 n x := by
  rw [codeK_R, cmp_isNaN_int64_ex]
  rfl
def cmp_isNaN_int64_spec : Sp := ⟨cmp_isNaN_int64_ps, cmp_isNaN_int64_rs, cmp_isNaN_int64⟩
theorem cmp_isNaN_int64_ok : SoundX Tryz.prog CX 112 (.f cmp_isNaN_int64_spec) := sound_of look_nil Tryz.func112 (by kernel_rfl) rfl cmp_isNaN_int64_an cmp_isNaN_int64_spec rfl rfl cmp_isNaN_int64_qx

/-! ### cmp.Compare[int64] -/
abbrev cmp_Compare_int64_ps : Ty := T_api_At
abbrev cmp_Compare_int64_rs : Ty := (.pair (.int .i64) .unit)
def cmp_Compare_int64_sp : Specs := look [(112, .f cmp_isNaN_int64_spec)]
def cmp_Compare_int64_an : An := .o
abbrev cmp_Compare_int64_R := Option (Int × Unit)

def cmp_Compare_int64_px (n : Nat) (x : D_api_At) : cmp_Compare_int64_R :=
  ((cmp_isNaN_int64 n (x.1, ()))).bind fun v1 =>
  ((cmp_isNaN_int64 n (x.2.1, ()))).bind fun v2 =>
  bif v1.1 then
    bif v2.1 then
      some ((0 : Int), ())
    else
      some ((-1 : Int), ())
  else
    bif v2.1 then
      some ((1 : Int), ())
    else
      bif (decide (x.1 < x.2.1)) then
        some ((-1 : Int), ())
      else
        bif (decide (x.1 > x.2.1)) then
          some ((1 : Int), ())
        else
          some ((0 : Int), ())
def cmp_Compare_int64 (n : Nat) (x : D_api_At) : cmp_Compare_int64_R := cmp_Compare_int64_px n x
theorem cmp_Compare_int64_ex (n : Nat) (rc : RC cmp_Compare_int64_R) (x : D_api_At) : codeR rc Tryz.prog cmp_Compare_int64_sp n (bodyOf Tryz.f105) cmp_Compare_int64_an (start cmp_Compare_int64_ps x (Func.ntmps Tryz.f105)) (kFin Tryz.prog cmp_Compare_int64_rs Tryz.f105) = cmp_Compare_int64_px n x := by kernel_rfl
theorem cmp_Compare_int64_qx (n : Nat) (x : D_api_At) : codeK Tryz.prog cmp_Compare_int64_sp n (bodyOf Tryz.f105) cmp_Compare_int64_an (start cmp_Compare_int64_ps x (Func.ntmps Tryz.f105)) (kFin Tryz.prog cmp_Compare_int64_rs Tryz.f105) = cmp_Compare_int64 n x := by
  rw [codeK_R, cmp_Compare_int64_ex]
  rfl
def cmp_Compare_int64_spec : Sp := ⟨cmp_Compare_int64_ps, cmp_Compare_int64_rs, cmp_Compare_int64⟩
theorem cmp_Compare_int64_ok : SoundX Tryz.prog CX 105 (.f cmp_Compare_int64_spec) := sound_of (look_cons cmp_isNaN_int64_ok look_nil) Tryz.func105 (by kernel_rfl) rfl cmp_Compare_int64_an cmp_Compare_int64_spec rfl rfl cmp_Compare_int64_qx

/-! ### noonmark/expand.order -/
abbrev Eorder_ps : Ty := (.pair T_EFire (.pair T_EFire .unit))
abbrev Eorder_rs : Ty := (.pair (.int .i64) .unit)
def Eorder_sp : Specs := look [(103, .f cmp_Or_int_spec), (104, .f cmp_Compare_int_spec), (105, .f cmp_Compare_int64_spec)]
def Eorder_an : An := .o
abbrev Eorder_R := Option (Int × Unit)

def Eorder_px (n : Nat) (x : (D_EFire × (D_EFire × Unit))) : Eorder_R :=
  ((cmp_Compare_int n (x.1.2.1, (x.2.1.2.1, ())))).bind fun v1 =>
  ((cmp_Compare_int64 n (x.1.2.2.1, (x.2.1.2.2.1, ())))).bind fun v2 =>
  ((cmp_Compare_int n (x.1.1, (x.2.1.1, ())))).bind fun v3 =>
  ((cmp_Or_int n (((v1.1 :: v2.1 :: v3.1 :: [])), ()))).bind fun v5 =>
  some (v5.1, ())
def Eorder (n : Nat) (x : (D_EFire × (D_EFire × Unit))) : Eorder_R := Eorder_px n x
theorem Eorder_ex (n : Nat) (rc : RC Eorder_R) (x : (D_EFire × (D_EFire × Unit))) : codeR rc Tryz.prog Eorder_sp n (bodyOf Tryz.f88) Eorder_an (start Eorder_ps x (Func.ntmps Tryz.f88)) (kFin Tryz.prog Eorder_rs Tryz.f88) = Eorder_px n x := by kernel_rfl
theorem Eorder_qx (n : Nat) (x : (D_EFire × (D_EFire × Unit))) : codeK Tryz.prog Eorder_sp n (bodyOf Tryz.f88) Eorder_an (start Eorder_ps x (Func.ntmps Tryz.f88)) (kFin Tryz.prog Eorder_rs Tryz.f88) = Eorder n x := by
  rw [codeK_R, Eorder_ex]
  rfl
def Eorder_spec : Sp := ⟨Eorder_ps, Eorder_rs, Eorder⟩
theorem Eorder_ok : SoundX Tryz.prog CX 88 (.f Eorder_spec) := sound_of (look_cons cmp_Or_int_ok (look_cons cmp_Compare_int_ok (look_cons cmp_Compare_int64_ok look_nil))) Tryz.func88 (by kernel_rfl) rfl Eorder_an Eorder_spec rfl rfl Eorder_qx
end Go.Proofs.YtadamegddcadcaaGreatDoorPi
