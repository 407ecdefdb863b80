import Derived.Test.YtadamegddcadcaaGreatDoorFnE
import Derived.Test.YtadamegddcadcaaGreatDoorDgs
set_option linter.unusedVariables false
set_option maxRecDepth 100000
set_option maxHeartbeats 4000000
set_option linter.unusedVariables false
namespace Go.Proofs.YtadamegddcadcaaGreatDoorPi
open Go Go.Proofs
abbrev T_api_Local : Ty := (.pair (.int .i64) (.pair .bool (.pair .str .unit)))
abbrev D_api_Local := (Int × (Bool × (ByteArray × Unit)))
/-! ### noonmark/format.Plain -/
abbrev FoPlain_ps : Ty := (.pair .str .unit)
abbrev FoPlain_rs : Ty := (.pair .bool .unit)
def FoPlain_sp : Specs := look []
def FoPlain_an : An := (.s .o (.k [] [0] 0 (.k [] [0,7,8,9] 0 .o (.b (.l [] [0,7,8,9] 0 (.s .o (.s .o (.k [] [0,7,8,9] 0 (.b (.s .o (.s .o (.b (.k [] [0,7,8,9,15] 0 (.k [] [0,4,7,8,9,15] 0 .o .o) .o))))) .o)))))) .o))
abbrev FoPlain_R := Option (Bool × Unit)
noncomputable abbrev FoPlain_c0 : Code := (cr (cr (bodyOf Tryz.f19)))
noncomputable abbrev FoPlain_c1 : Code := (cr (cr (cr (cl (cl (cr (cl (cr (bodyOf Tryz.f19)))))))))
noncomputable abbrev FoPlain_c2 : Code := (cr (cl (cr (cr (cl (cl (cr (cr (cl (cl (cr (cl (cr (bodyOf Tryz.f19))))))))))))))
noncomputable abbrev FoPlain_c3 : Code := (cr (cl (cl (cr (cr (cl (cl (cr (cr (cl (cl (cr (cl (cr (bodyOf Tryz.f19)))))))))))))))
noncomputable abbrev FoPlain_c4 : Code := (cl (cl (cr (cl (cr (bodyOf Tryz.f19))))))
noncomputable abbrev FoPlain_c5 : Code := (cr (cl (cr (bodyOf Tryz.f19))))
noncomputable abbrev FoPlain_a0 : An := FoPlain_an.right.right
noncomputable abbrev FoPlain_a1 : An := FoPlain_an.right.left.right.left.left.right.right.right
noncomputable abbrev FoPlain_a2 : An := FoPlain_an.right.left.right.left
noncomputable abbrev FoPlain_a3 : An := FoPlain_an.right.left.right.left.left.right.right.left.left.right.right.left.right
noncomputable abbrev FoPlain_a4 : An := FoPlain_an.right.left.right.left.left.right.right
noncomputable abbrev FoPlain_a5 : An := FoPlain_an.right.left.right.left.left.right.right.left.left.right.right.left.left.right
noncomputable abbrev FoPlain_a6 : An := FoPlain_an.right.left.right.left.left.right.right.left.left.right.right.left
noncomputable abbrev FoPlain_a7 : An := FoPlain_an.right.left.right.left.left
noncomputable abbrev FoPlain_a8 : An := FoPlain_an.right.left.right
noncomputable abbrev FoPlain_K0 (r2 k0 : St → FoPlain_R) : Ex → St → FoPlain_R := (kSeq r2 FoPlain_a2 (kBlk 0 (kSeq k0 FoPlain_an.right (kFin Tryz.prog FoPlain_rs Tryz.f19))))
noncomputable abbrev FoPlain_K1 (k3 r2 k0 : St → FoPlain_R) : Ex → St → FoPlain_R := (kBlk 2 (kBlk 1 (kSeq k3 FoPlain_a4 (kSeq r2 FoPlain_a2 (kBlk 0 (kSeq k0 FoPlain_an.right (kFin Tryz.prog FoPlain_rs Tryz.f19)))))))
noncomputable abbrev FoPlain_K2 (k4 k3 r2 k0 : St → FoPlain_R) : Ex → St → FoPlain_R := (kSeq k4 FoPlain_a6 (kBlk 2 (kBlk 1 (kSeq k3 FoPlain_a4 (kSeq r2 FoPlain_a2 (kBlk 0 (kSeq k0 FoPlain_an.right (kFin Tryz.prog FoPlain_rs Tryz.f19))))))))
noncomputable abbrev FoPlain_K3 (r2 k0 : St → FoPlain_R) : Ex → St → FoPlain_R := (kSeq r2 FoPlain_a2 (kBlk 0 (kSeq k0 FoPlain_an.right (kFin Tryz.prog FoPlain_rs Tryz.f19))))
noncomputable abbrev FoPlain_K4 (k0 : St → FoPlain_R) : Ex → St → FoPlain_R := (kSeq k0 FoPlain_an.right (kFin Tryz.prog FoPlain_rs Tryz.f19))
abbrev FoPlain_t0 := ByteArray
def FoPlain_m0 (z : FoPlain_t0) : St := ⟨(.v ⟨.str, z⟩ :: jk 44 []), []⟩
abbrev FoPlain_t1 := ByteArray × (List Int) × Int × Int
def FoPlain_m1 (z : FoPlain_t1) : St := ⟨(.v ⟨.str, z.1⟩ :: jk 6 (.v ⟨(.list (.int .u8)), z.2.1⟩ :: .v ⟨(.int .i64), z.2.2.1⟩ :: .v ⟨(.int .i64), z.2.2.2⟩ :: jk 35 [])), []⟩
abbrev FoPlain_t2 := ByteArray × (List Int) × Int × Int
def FoPlain_m2 (z : FoPlain_t2) : St := ⟨(.v ⟨.str, z.1⟩ :: jk 6 (.v ⟨(.list (.int .u8)), z.2.1⟩ :: .v ⟨(.int .i64), z.2.2.1⟩ :: .v ⟨(.int .i64), z.2.2.2⟩ :: jk 35 [])), []⟩
abbrev FoPlain_t3 := ByteArray × (List Int) × Int × Int
def FoPlain_m3 (z : FoPlain_t3) : St := ⟨(.v ⟨.str, z.1⟩ :: jk 6 (.v ⟨(.list (.int .u8)), z.2.1⟩ :: .v ⟨(.int .i64), z.2.2.1⟩ :: .v ⟨(.int .i64), z.2.2.2⟩ :: jk 35 [])), []⟩
abbrev FoPlain_t4 := ByteArray × (List Int) × Int × Int × Bool
def FoPlain_m4 (z : FoPlain_t4) : St := ⟨(.v ⟨.str, z.1⟩ :: jk 6 (.v ⟨(.list (.int .u8)), z.2.1⟩ :: .v ⟨(.int .i64), z.2.2.1⟩ :: .v ⟨(.int .i64), z.2.2.2.1⟩ :: jk 5 (.v ⟨.bool, z.2.2.2.2⟩ :: jk 29 []))), []⟩
abbrev FoPlain_t5 := ByteArray × Int × (List Int) × Int × Int × Bool
def FoPlain_m5 (z : FoPlain_t5) : St := ⟨(.v ⟨.str, z.1⟩ :: jk 3 (.v ⟨(.int .u8), z.2.1⟩ :: .junk :: .junk :: .v ⟨(.list (.int .u8)), z.2.2.1⟩ :: .v ⟨(.int .i64), z.2.2.2.1⟩ :: .v ⟨(.int .i64), z.2.2.2.2.1⟩ :: jk 5 (.v ⟨.bool, z.2.2.2.2.2⟩ :: jk 29 []))), []⟩
def FoPlain_p0 (_n : Nat) (z : FoPlain_t0) : FoPlain_R :=
  bif (decide ((ByteArray.size z : Int) ≥ 3)) then
    some ((decide ((ByteArray.size z : Int) ≤ 6)), ())
  else
    some (false, ())
def FoPlain_s0 (n : Nat) (z : FoPlain_t0) : FoPlain_R := FoPlain_p0 n z
theorem FoPlain_e0 (n : Nat) (rc : RC FoPlain_R) (z : FoPlain_t0) : codeR rc Tryz.prog FoPlain_sp n FoPlain_c0 FoPlain_a0 (FoPlain_m0 z) (kFin Tryz.prog FoPlain_rs Tryz.f19) = FoPlain_p0 n z := by kernel_rfl
theorem FoPlain_q0 (n : Nat) (z : FoPlain_t0) : codeK Tryz.prog FoPlain_sp n FoPlain_c0 FoPlain_a0 (FoPlain_m0 z) (kFin Tryz.prog FoPlain_rs Tryz.f19) = FoPlain_s0 n z := by
  rw [codeK_R, FoPlain_e0]
  rfl
def FoPlain_p3 (_n : Nat) (_k0 : FoPlain_t0 → FoPlain_R) (r2 : FoPlain_t2 → FoPlain_R) (z : FoPlain_t3) : FoPlain_R :=
  r2 (z.1, z.2.1, z.2.2.1, (w64 (z.2.2.2 + 1)))
def FoPlain_s3 (n : Nat) (k0 : FoPlain_t0 → FoPlain_R) (r2 : FoPlain_t2 → FoPlain_R) (z : FoPlain_t3) : FoPlain_R := FoPlain_p3 n k0 r2 z
theorem FoPlain_e3 (n : Nat) (k0 : St → FoPlain_R) (r2 : St → FoPlain_R) (rc : RC FoPlain_R) (z : FoPlain_t3) : codeR rc Tryz.prog FoPlain_sp n FoPlain_c1 FoPlain_a1 (FoPlain_m3 z) (FoPlain_K0 r2 k0) = FoPlain_p3 n (fun y => k0 (FoPlain_m0 y)) (fun y => r2 (FoPlain_m2 y)) z := by kernel_rfl
theorem FoPlain_q3 (n : Nat) (k0 : St → FoPlain_R) (r2 : St → FoPlain_R) (z : FoPlain_t3) : codeK Tryz.prog FoPlain_sp n FoPlain_c1 FoPlain_a1 (FoPlain_m3 z) (FoPlain_K0 r2 k0) = FoPlain_s3 n (fun y => k0 (FoPlain_m0 y)) (fun y => r2 (FoPlain_m2 y)) z := by
  rw [codeK_R, FoPlain_e3]
  rfl
def FoPlain_p4 (_n : Nat) (_k0 : FoPlain_t0 → FoPlain_R) (_r2 : FoPlain_t2 → FoPlain_R) (k3 : FoPlain_t3 → FoPlain_R) (z : FoPlain_t4) : FoPlain_R :=
  bif z.2.2.2.2 then
    k3 (z.1, z.2.1, z.2.2.1, z.2.2.2.1)
  else
    some (false, ())
def FoPlain_s4 (n : Nat) (k0 : FoPlain_t0 → FoPlain_R) (r2 : FoPlain_t2 → FoPlain_R) (k3 : FoPlain_t3 → FoPlain_R) (z : FoPlain_t4) : FoPlain_R := FoPlain_p4 n k0 r2 k3 z
theorem FoPlain_e4 (n : Nat) (k0 : St → FoPlain_R) (r2 : St → FoPlain_R) (k3 : St → FoPlain_R) (rc : RC FoPlain_R) (z : FoPlain_t4) : codeR rc Tryz.prog FoPlain_sp n FoPlain_c2 FoPlain_a3 (FoPlain_m4 z) (FoPlain_K1 k3 r2 k0) = FoPlain_p4 n (fun y => k0 (FoPlain_m0 y)) (fun y => r2 (FoPlain_m2 y)) (fun y => k3 (FoPlain_m3 y)) z := by kernel_rfl
theorem FoPlain_q4 (n : Nat) (k0 : St → FoPlain_R) (r2 : St → FoPlain_R) (k3 : St → FoPlain_R) (z : FoPlain_t4) : codeK Tryz.prog FoPlain_sp n FoPlain_c2 FoPlain_a3 (FoPlain_m4 z) (FoPlain_K1 k3 r2 k0) = FoPlain_s4 n (fun y => k0 (FoPlain_m0 y)) (fun y => r2 (FoPlain_m2 y)) (fun y => k3 (FoPlain_m3 y)) z := by
  rw [codeK_R, FoPlain_e4]
  rfl
def FoPlain_p5 (_n : Nat) (_k0 : FoPlain_t0 → FoPlain_R) (_r2 : FoPlain_t2 → FoPlain_R) (_k3 : FoPlain_t3 → FoPlain_R) (k4 : FoPlain_t4 → FoPlain_R) (z : FoPlain_t5) : FoPlain_R :=
  bif z.2.2.2.2.2 then
    k4 (z.1, z.2.2.1, z.2.2.2.1, z.2.2.2.2.1, true)
  else
    bif (decide (48 ≤ z.2.1)) then
      bif (decide (z.2.1 ≤ 57)) then
        k4 (z.1, z.2.2.1, z.2.2.2.1, z.2.2.2.2.1, true)
      else
        bif (z.2.1 == 43) then
          k4 (z.1, z.2.2.1, z.2.2.2.1, z.2.2.2.2.1, true)
        else
          k4 (z.1, z.2.2.1, z.2.2.2.1, z.2.2.2.2.1, (z.2.1 == 45))
    else
      bif (z.2.1 == 43) then
        k4 (z.1, z.2.2.1, z.2.2.2.1, z.2.2.2.2.1, true)
      else
        k4 (z.1, z.2.2.1, z.2.2.2.1, z.2.2.2.2.1, (z.2.1 == 45))
def FoPlain_s5 (n : Nat) (k0 : FoPlain_t0 → FoPlain_R) (r2 : FoPlain_t2 → FoPlain_R) (k3 : FoPlain_t3 → FoPlain_R) (k4 : FoPlain_t4 → FoPlain_R) (z : FoPlain_t5) : FoPlain_R := FoPlain_p5 n k0 r2 k3 k4 z
theorem FoPlain_e5 (n : Nat) (k0 : St → FoPlain_R) (r2 : St → FoPlain_R) (k3 : St → FoPlain_R) (k4 : St → FoPlain_R) (rc : RC FoPlain_R) (z : FoPlain_t5) : codeR rc Tryz.prog FoPlain_sp n FoPlain_c3 FoPlain_a5 (FoPlain_m5 z) (FoPlain_K2 k4 k3 r2 k0) = FoPlain_p5 n (fun y => k0 (FoPlain_m0 y)) (fun y => r2 (FoPlain_m2 y)) (fun y => k3 (FoPlain_m3 y)) (fun y => k4 (FoPlain_m4 y)) z := by kernel_rfl
theorem FoPlain_q5 (n : Nat) (k0 : St → FoPlain_R) (r2 : St → FoPlain_R) (k3 : St → FoPlain_R) (k4 : St → FoPlain_R) (z : FoPlain_t5) : codeK Tryz.prog FoPlain_sp n FoPlain_c3 FoPlain_a5 (FoPlain_m5 z) (FoPlain_K2 k4 k3 r2 k0) = FoPlain_s5 n (fun y => k0 (FoPlain_m0 y)) (fun y => r2 (FoPlain_m2 y)) (fun y => k3 (FoPlain_m3 y)) (fun y => k4 (FoPlain_m4 y)) z := by
  rw [codeK_R, FoPlain_e5]
  rfl
def FoPlain_p2 (_n : Nat) (k0 : FoPlain_t0 → FoPlain_R) (_r2 : FoPlain_t2 → FoPlain_R) (k3 : FoPlain_t3 → FoPlain_R) (k4 : FoPlain_t4 → FoPlain_R) (k5 : FoPlain_t5 → FoPlain_R) (z : FoPlain_t2) : FoPlain_R :=
  bif (decide (z.2.2.2 < z.2.2.1)) then
    bif decide (0 ≤ z.2.2.2) then
      ((z.2.1[Int.toNat z.2.2.2]?)).bind fun e2 =>
      let t3 := w8 (((BitVec.ofInt (IntKind.bits .u8) e2) ||| (BitVec.ofInt (IntKind.bits .u8) (32 : Int))).toNat : Int)
      bif (decide (97 ≤ t3)) then
        bif (decide (t3 ≤ 122)) then
          k5 (z.1, e2, z.2.1, z.2.2.1, z.2.2.2, (decide (e2 < 128)))
        else
          k5 (z.1, e2, z.2.1, z.2.2.1, z.2.2.2, false)
      else
        k5 (z.1, e2, z.2.1, z.2.2.1, z.2.2.2, false)
    else none
  else
    k0 z.1
def FoPlain_s2 (n : Nat) (k0 : FoPlain_t0 → FoPlain_R) (r2 : FoPlain_t2 → FoPlain_R) (z : FoPlain_t2) : FoPlain_R := FoPlain_p2 n k0 r2 (FoPlain_s3 n k0 r2) (FoPlain_s4 n k0 r2 (FoPlain_s3 n k0 r2)) (FoPlain_s5 n k0 r2 (FoPlain_s3 n k0 r2) (FoPlain_s4 n k0 r2 (FoPlain_s3 n k0 r2))) z
theorem FoPlain_e2 (n : Nat) (k0 : St → FoPlain_R) (r2 : St → FoPlain_R) (rc : RC FoPlain_R) (z : FoPlain_t2) : codeR rc Tryz.prog FoPlain_sp n FoPlain_c4 FoPlain_a7 (FoPlain_m2 z) (FoPlain_K3 r2 k0) = FoPlain_p2 n (fun y => k0 (FoPlain_m0 y)) (fun y => r2 (FoPlain_m2 y)) (fun y => rc FoPlain_c1 FoPlain_a1 (FoPlain_m3 y) (FoPlain_K0 r2 k0)) (fun y => rc FoPlain_c2 FoPlain_a3 (FoPlain_m4 y) (FoPlain_K1 (fun st => rc FoPlain_c1 FoPlain_a1 st (FoPlain_K0 r2 k0)) r2 k0)) (fun y => rc FoPlain_c3 FoPlain_a5 (FoPlain_m5 y) (FoPlain_K2 (fun st => rc FoPlain_c2 FoPlain_a3 st (FoPlain_K1 (fun st => rc FoPlain_c1 FoPlain_a1 st (FoPlain_K0 r2 k0)) r2 k0)) (fun st => rc FoPlain_c1 FoPlain_a1 st (FoPlain_K0 r2 k0)) r2 k0)) z := by kernel_rfl
theorem FoPlain_q2 (n : Nat) (k0 : St → FoPlain_R) (r2 : St → FoPlain_R) (z : FoPlain_t2) : codeK Tryz.prog FoPlain_sp n FoPlain_c4 FoPlain_a7 (FoPlain_m2 z) (FoPlain_K3 r2 k0) = FoPlain_s2 n (fun y => k0 (FoPlain_m0 y)) (fun y => r2 (FoPlain_m2 y)) z := by
  have h3 : (fun y => codeK Tryz.prog FoPlain_sp n FoPlain_c1 FoPlain_a1 (FoPlain_m3 y) (FoPlain_K0 r2 k0)) = (FoPlain_s3 n (fun y => k0 (FoPlain_m0 y)) (fun y => r2 (FoPlain_m2 y))) := funext fun y => by
    have := FoPlain_q3 n k0 r2 y
    exact this
  have h4 : (fun y => codeK Tryz.prog FoPlain_sp n FoPlain_c2 FoPlain_a3 (FoPlain_m4 y) (FoPlain_K1 (fun st => codeK Tryz.prog FoPlain_sp n FoPlain_c1 FoPlain_a1 st (FoPlain_K0 r2 k0)) r2 k0)) = (FoPlain_s4 n (fun y => k0 (FoPlain_m0 y)) (fun y => r2 (FoPlain_m2 y)) (FoPlain_s3 n (fun y => k0 (FoPlain_m0 y)) (fun y => r2 (FoPlain_m2 y)))) := funext fun y => by
    have := FoPlain_q4 n k0 r2 (fun st => codeK Tryz.prog FoPlain_sp n FoPlain_c1 FoPlain_a1 st (FoPlain_K0 r2 k0)) y
    rw [h3] at this; exact this
  have h5 : (fun y => codeK Tryz.prog FoPlain_sp n FoPlain_c3 FoPlain_a5 (FoPlain_m5 y) (FoPlain_K2 (fun st => codeK Tryz.prog FoPlain_sp n FoPlain_c2 FoPlain_a3 st (FoPlain_K1 (fun st => codeK Tryz.prog FoPlain_sp n FoPlain_c1 FoPlain_a1 st (FoPlain_K0 r2 k0)) r2 k0)) (fun st => codeK Tryz.prog FoPlain_sp n FoPlain_c1 FoPlain_a1 st (FoPlain_K0 r2 k0)) r2 k0)) = (FoPlain_s5 n (fun y => k0 (FoPlain_m0 y)) (fun y => r2 (FoPlain_m2 y)) (FoPlain_s3 n (fun y => k0 (FoPlain_m0 y)) (fun y => r2 (FoPlain_m2 y))) (FoPlain_s4 n (fun y => k0 (FoPlain_m0 y)) (fun y => r2 (FoPlain_m2 y)) (FoPlain_s3 n (fun y => k0 (FoPlain_m0 y)) (fun y => r2 (FoPlain_m2 y))))) := funext fun y => by
    have := FoPlain_q5 n k0 r2 (fun st => codeK Tryz.prog FoPlain_sp n FoPlain_c1 FoPlain_a1 st (FoPlain_K0 r2 k0)) (fun st => codeK Tryz.prog FoPlain_sp n FoPlain_c2 FoPlain_a3 st (FoPlain_K1 (fun st => codeK Tryz.prog FoPlain_sp n FoPlain_c1 FoPlain_a1 st (FoPlain_K0 r2 k0)) r2 k0)) y
    rw [h3] at this; rw [h4] at this; exact this
  rw [codeK_R, FoPlain_e2]
  rw [h3]
  rw [h4]
  rw [h5]
  rfl
def FoPlain_s1 (n : Nat) (k0 : FoPlain_t0 → FoPlain_R) (z : FoPlain_t1) : FoPlain_R :=
  rounds (fun r2 x' => FoPlain_s2 n k0 r2 x') n (z.1, z.2.1, z.2.2.1, z.2.2.2)
theorem FoPlain_q1 (n : Nat) (k0 : St → FoPlain_R) (z : FoPlain_t1) : codeK Tryz.prog FoPlain_sp n FoPlain_c5 FoPlain_a8 (FoPlain_m1 z) (FoPlain_K4 k0) = FoPlain_s1 n (fun y => k0 (FoPlain_m0 y)) z :=
  Eq.trans (b := rounds (fun r2 st => codeK Tryz.prog FoPlain_sp n FoPlain_c4 FoPlain_a7 st (FoPlain_K3 r2 k0)) n (FoPlain_m2 (z.1, z.2.1, z.2.2.1, z.2.2.2))) (by kernel_rfl) (rounds_mk FoPlain_m2 (fun r2 x' => by
    have := (FoPlain_q2 n k0 r2 x')
    exact this) n _)
def FoPlain_px (_n : Nat) (k0 : FoPlain_t0 → FoPlain_R) (k1 : FoPlain_t1 → FoPlain_R) (x : (ByteArray × Unit)) : FoPlain_R :=
  let t1 := bytesOf x.1
  k1 (x.1, t1, (List.length t1 : Int), (0 : Int))
def FoPlain (n : Nat) (x : (ByteArray × Unit)) : FoPlain_R := FoPlain_px n (FoPlain_s0 n) (FoPlain_s1 n (FoPlain_s0 n)) x
theorem FoPlain_ex (n : Nat) (rc : RC FoPlain_R) (x : (ByteArray × Unit)) : codeR rc Tryz.prog FoPlain_sp n (bodyOf Tryz.f19) FoPlain_an (start FoPlain_ps x (Func.ntmps Tryz.f19)) (kFin Tryz.prog FoPlain_rs Tryz.f19) = FoPlain_px n (fun y => rc FoPlain_c0 FoPlain_a0 (FoPlain_m0 y) (kFin Tryz.prog FoPlain_rs Tryz.f19)) (fun y => rc FoPlain_c5 FoPlain_a8 (FoPlain_m1 y) (FoPlain_K4 (fun st => rc FoPlain_c0 FoPlain_a0 st (kFin Tryz.prog FoPlain_rs Tryz.f19)))) x := by kernel_rfl
theorem FoPlain_qx (n : Nat) (x : (ByteArray × Unit)) : codeK Tryz.prog FoPlain_sp n (bodyOf Tryz.f19) FoPlain_an (start FoPlain_ps x (Func.ntmps Tryz.f19)) (kFin Tryz.prog FoPlain_rs Tryz.f19) = FoPlain n x := by
  have h0 : (fun y => codeK Tryz.prog FoPlain_sp n FoPlain_c0 FoPlain_a0 (FoPlain_m0 y) (kFin Tryz.prog FoPlain_rs Tryz.f19)) = (FoPlain_s0 n) := funext fun y => by
    have := FoPlain_q0 n  y
    exact this
  have h1 : (fun y => codeK Tryz.prog FoPlain_sp n FoPlain_c5 FoPlain_a8 (FoPlain_m1 y) (FoPlain_K4 (fun st => codeK Tryz.prog FoPlain_sp n FoPlain_c0 FoPlain_a0 st (kFin Tryz.prog FoPlain_rs Tryz.f19)))) = (FoPlain_s1 n (FoPlain_s0 n)) := funext fun y => by
    have := FoPlain_q1 n (fun st => codeK Tryz.prog FoPlain_sp n FoPlain_c0 FoPlain_a0 st (kFin Tryz.prog FoPlain_rs Tryz.f19)) y
    rw [h0] at this; exact this
  rw [codeK_R, FoPlain_ex]
  rw [h0]
  rw [h1]
  rfl
def FoPlain_spec : Sp := ⟨FoPlain_ps, FoPlain_rs, FoPlain⟩
theorem FoPlain_ok : SoundX Tryz.prog CG 19 (.f FoPlain_spec) := sound_of look_nil Tryz.func19 (by kernel_rfl) rfl FoPlain_an FoPlain_spec rfl rfl FoPlain_qx

/-! ### noonmark/format.Abbr -/
abbrev FoAbbr_ps : Ty := (.pair .str (.pair .str (.pair (.int .i64) (.pair .bool .unit))))
abbrev FoAbbr_rs : Ty := (.pair .str (.pair (.int .i64) .unit))
def FoAbbr_sp : Specs := look [(15, .f cutS), (16, .f containsS), (17, .f replaceS), (18, .f digitsS), (19, .f FoPlain_spec)]
def FoAbbr_an : An := (.s .o (.s .o (.s .o (.s .o (.k [] [13] 0 .o .o)))))
abbrev FoAbbr_R := Option (ByteArray × (Int × Unit))
noncomputable abbrev FoAbbr_c0 : Code := (cr (cr (cr (cr (cr (bodyOf Tryz.f10))))))
noncomputable abbrev FoAbbr_a0 : An := FoAbbr_an.right.right.right.right.right
abbrev FoAbbr_t0 := ByteArray
def FoAbbr_m0 (z : FoAbbr_t0) : St := ⟨(jk 13 (.v ⟨.str, z⟩ :: jk 39 [])), []⟩
def FoAbbr_p0 (n : Nat) (z : FoAbbr_t0) : FoAbbr_R :=
  ((FoPlain n (z, ()))).bind fun v7 =>
  bif (!v7.1) then
    some ((⟨#[]⟩ : ByteArray), ((15 : Int), ()))
  else
    some (z, ((0 : Int), ()))
def FoAbbr_s0 (n : Nat) (z : FoAbbr_t0) : FoAbbr_R := FoAbbr_p0 n z
theorem FoAbbr_e0 (n : Nat) (rc : RC FoAbbr_R) (z : FoAbbr_t0) : codeR rc Tryz.prog FoAbbr_sp n FoAbbr_c0 FoAbbr_a0 (FoAbbr_m0 z) (kFin Tryz.prog FoAbbr_rs Tryz.f10) = FoAbbr_p0 n z := by kernel_rfl
theorem FoAbbr_q0 (n : Nat) (z : FoAbbr_t0) : codeK Tryz.prog FoAbbr_sp n FoAbbr_c0 FoAbbr_a0 (FoAbbr_m0 z) (kFin Tryz.prog FoAbbr_rs Tryz.f10) = FoAbbr_s0 n z := by
  rw [codeK_R, FoAbbr_e0]
  rfl
def FoAbbr_px (n : Nat) (k0 : FoAbbr_t0 → FoAbbr_R) (x : (ByteArray × (ByteArray × (Int × (Bool × Unit))))) : FoAbbr_R :=
  bif (decide (x.2.2.1 < (-180000))) then
    some ((⟨#[]⟩ : ByteArray), ((1 : Int), ()))
  else
    bif (decide (x.2.2.1 > 180000)) then
      some ((⟨#[]⟩ : ByteArray), ((1 : Int), ()))
    else
      ((cutF n (x.1, ((⟨#[47]⟩ : ByteArray), ())))).bind fun v1 =>
      ((containsF n (x.1, ((⟨#[37, 115]⟩ : ByteArray), ())))).bind fun v2 =>
      bif v2.1 then
        ((replaceF n (x.1, ((⟨#[37, 115]⟩ : ByteArray), (x.2.1, ((1 : Int), ())))))).bind fun v3 =>
        k0 v3.1
      else
        ((containsF n (x.1, ((⟨#[37, 122]⟩ : ByteArray), ())))).bind fun v4 =>
        bif v4.1 then
          ((digitsF n (x.2.2.1, ()))).bind fun v5 =>
          ((replaceF n (x.1, ((⟨#[37, 122]⟩ : ByteArray), (v5.1, ((1 : Int), ())))))).bind fun v6 =>
          k0 v6.1
        else
          bif v1.2.2.1 then
            bif x.2.2.2.1 then
              k0 v1.2.1
            else
              bif v1.2.2.1 then
                k0 v1.1
              else
                k0 x.1
          else
            bif v1.2.2.1 then
              k0 v1.1
            else
              k0 x.1
def FoAbbr (n : Nat) (x : (ByteArray × (ByteArray × (Int × (Bool × Unit))))) : FoAbbr_R := FoAbbr_px n (FoAbbr_s0 n) x
theorem FoAbbr_ex (n : Nat) (rc : RC FoAbbr_R) (x : (ByteArray × (ByteArray × (Int × (Bool × Unit))))) : codeR rc Tryz.prog FoAbbr_sp n (bodyOf Tryz.f10) FoAbbr_an (start FoAbbr_ps x (Func.ntmps Tryz.f10)) (kFin Tryz.prog FoAbbr_rs Tryz.f10) = FoAbbr_px n (fun y => rc FoAbbr_c0 FoAbbr_a0 (FoAbbr_m0 y) (kFin Tryz.prog FoAbbr_rs Tryz.f10)) x := by kernel_rfl
theorem FoAbbr_qx (n : Nat) (x : (ByteArray × (ByteArray × (Int × (Bool × Unit))))) : codeK Tryz.prog FoAbbr_sp n (bodyOf Tryz.f10) FoAbbr_an (start FoAbbr_ps x (Func.ntmps Tryz.f10)) (kFin Tryz.prog FoAbbr_rs Tryz.f10) = FoAbbr n x := by
  have h0 : (fun y => codeK Tryz.prog FoAbbr_sp n FoAbbr_c0 FoAbbr_a0 (FoAbbr_m0 y) (kFin Tryz.prog FoAbbr_rs Tryz.f10)) = (FoAbbr_s0 n) := funext fun y => by
    have := FoAbbr_q0 n  y
    exact this
  rw [codeK_R, FoAbbr_ex]
  rw [h0]
  rfl
def FoAbbr_spec : Sp := ⟨FoAbbr_ps, FoAbbr_rs, FoAbbr⟩
theorem FoAbbr_ok : SoundX Tryz.prog CG 10 (.f FoAbbr_spec) := sound_of (look_cons cut_okX (look_cons contains_okX (look_cons replace_okX (look_cons digits_okX (look_cons FoPlain_ok look_nil))))) Tryz.func10 (by kernel_rfl) rfl FoAbbr_an FoAbbr_spec rfl rfl FoAbbr_qx

/-! ### noonmark/noonmarklaw16.alive -/
abbrev B6alive_ps : Ty := .unit
abbrev B6alive_rs : Ty := (.pair .bool .unit)
def B6alive_sp : Specs := look [(10, .f FoAbbr_spec)]
def B6alive_an : An := .o
abbrev B6alive_R := Option (Bool × Unit)

def B6alive_px (n : Nat) (_x : Unit) : B6alive_R :=
  ((FoAbbr n ((⟨#[67, 69, 37, 115, 84]⟩ : ByteArray), ((⟨#[83]⟩ : ByteArray), ((7200 : Int), (true, ())))))).bind fun v1 =>
  ((FoAbbr n ((⟨#[71, 77, 84, 47, 66, 83, 84]⟩ : ByteArray), ((⟨#[]⟩ : ByteArray), ((0 : Int), (false, ())))))).bind fun v2 =>
  ((FoAbbr n ((⟨#[37, 122]⟩ : ByteArray), ((⟨#[]⟩ : ByteArray), ((19800 : Int), (false, ())))))).bind fun v3 =>
  bif (v1.1.toList == (⟨#[67, 69, 83, 84]⟩ : ByteArray).toList) then
    bif (v2.1.toList == (⟨#[71, 77, 84]⟩ : ByteArray).toList) then
      bif (v3.1.toList == (⟨#[43, 48, 53, 51, 48]⟩ : ByteArray).toList) then
        bif (v1.2.1 == 0) then
          bif (v2.2.1 == 0) then
            some ((v3.2.1 == 0), ())
          else
            some (false, ())
        else
          some (false, ())
      else
        some (false, ())
    else
      some (false, ())
  else
    some (false, ())
def B6alive (n : Nat) (x : Unit) : B6alive_R := B6alive_px n x
theorem B6alive_ex (n : Nat) (rc : RC B6alive_R) (x : Unit) : codeR rc Tryz.prog B6alive_sp n (bodyOf Tryz.f5) B6alive_an (start B6alive_ps x (Func.ntmps Tryz.f5)) (kFin Tryz.prog B6alive_rs Tryz.f5) = B6alive_px n x := by kernel_rfl
theorem B6alive_qx (n : Nat) (x : Unit) : codeK Tryz.prog B6alive_sp n (bodyOf Tryz.f5) B6alive_an (start B6alive_ps x (Func.ntmps Tryz.f5)) (kFin Tryz.prog B6alive_rs Tryz.f5) = B6alive n x := by
  rw [codeK_R, B6alive_ex]
  rfl
def B6alive_spec : Sp := ⟨B6alive_ps, B6alive_rs, B6alive⟩
theorem B6alive_ok : SoundX Tryz.prog CG 5 (.f B6alive_spec) := sound_of (look_cons FoAbbr_ok look_nil) Tryz.func5 (by kernel_rfl) rfl B6alive_an B6alive_spec rfl rfl B6alive_qx

/-! ### noonmark/format.Of -/
abbrev FoOf_ps : Ty := (.pair T_api_Era (.pair T_DeState .unit))
abbrev FoOf_rs : Ty := (.pair T_api_Local (.pair (.int .i64) .unit))
def FoOf_sp : Specs := look [(10, .f FoAbbr_spec)]
def FoOf_an : An := .o
abbrev FoOf_R := Option (D_api_Local × (Int × Unit))

def FoOf_px (n : Nat) (x : (D_api_Era × (D_DeState × Unit))) : FoOf_R :=
  let t1 := w64 (x.1.1 + x.2.1.2.1)
  ((FoAbbr n (x.1.2.2.2.2.1, (x.2.1.2.2.1, (t1, ((x.2.1.2.1 != 0), ())))))).bind fun v2 =>
  bif (v2.2.1 != 0) then
    some (((0 : Int), (false, ((⟨#[]⟩ : ByteArray), ()))), (v2.2.1, ()))
  else
    some ((t1, ((x.2.1.2.1 != 0), (v2.1, ()))), (v2.2.1, ()))
def FoOf (n : Nat) (x : (D_api_Era × (D_DeState × Unit))) : FoOf_R := FoOf_px n x
theorem FoOf_ex (n : Nat) (rc : RC FoOf_R) (x : (D_api_Era × (D_DeState × Unit))) : codeR rc Tryz.prog FoOf_sp n (bodyOf Tryz.f12) FoOf_an (start FoOf_ps x (Func.ntmps Tryz.f12)) (kFin Tryz.prog FoOf_rs Tryz.f12) = FoOf_px n x := by kernel_rfl
theorem FoOf_qx (n : Nat) (x : (D_api_Era × (D_DeState × Unit))) : codeK Tryz.prog FoOf_sp n (bodyOf Tryz.f12) FoOf_an (start FoOf_ps x (Func.ntmps Tryz.f12)) (kFin Tryz.prog FoOf_rs Tryz.f12) = FoOf n x := by
  rw [codeK_R, FoOf_ex]
  rfl
def FoOf_spec : Sp := ⟨FoOf_ps, FoOf_rs, FoOf⟩
theorem FoOf_ok : SoundX Tryz.prog CG 12 (.f FoOf_spec) := sound_of (look_cons FoAbbr_ok look_nil) Tryz.func12 (by kernel_rfl) rfl FoOf_an FoOf_spec rfl rfl FoOf_qx

/-! ### noonmark/format.At -/
abbrev FoAt_ps : Ty := (.pair T_A5Zone (.pair (.int .i64) .unit))
abbrev FoAt_rs : Ty := (.pair T_api_Local (.pair (.int .i64) .unit))
def FoAt_sp : Specs := look [(11, .f DeAt_spec), (12, .f FoOf_spec)]
def FoAt_an : An := .o
abbrev FoAt_R := Option (D_api_Local × (Int × Unit))

def FoAt_px (n : Nat) (x : (D_A5Zone × (Int × Unit))) : FoAt_R :=
  ((DeAt n (x.1, (x.2.1, ())))).bind fun v1 =>
  bif (v1.2.1 != 0) then
    some (((0 : Int), (false, ((⟨#[]⟩ : ByteArray), ()))), (v1.2.1, ()))
  else
    bif decide (0 ≤ v1.1.1) then
      ((x.1.1[Int.toNat v1.1.1]?)).bind fun e2 =>
      ((FoOf n (e2, (v1.1, ())))).bind fun v3 =>
      some (v3.1, (v3.2.1, ()))
    else none
def FoAt (n : Nat) (x : (D_A5Zone × (Int × Unit))) : FoAt_R := FoAt_px n x
theorem FoAt_ex (n : Nat) (rc : RC FoAt_R) (x : (D_A5Zone × (Int × Unit))) : codeR rc Tryz.prog FoAt_sp n (bodyOf Tryz.f6) FoAt_an (start FoAt_ps x (Func.ntmps Tryz.f6)) (kFin Tryz.prog FoAt_rs Tryz.f6) = FoAt_px n x := by kernel_rfl
theorem FoAt_qx (n : Nat) (x : (D_A5Zone × (Int × Unit))) : codeK Tryz.prog FoAt_sp n (bodyOf Tryz.f6) FoAt_an (start FoAt_ps x (Func.ntmps Tryz.f6)) (kFin Tryz.prog FoAt_rs Tryz.f6) = FoAt n x := by
  rw [codeK_R, FoAt_ex]
  rfl
def FoAt_spec : Sp := ⟨FoAt_ps, FoAt_rs, FoAt⟩
theorem FoAt_ok : SoundX Tryz.prog CG 6 (.f FoAt_spec) := sound_of (look_cons (weak_CG (fun _ => trivial) DeAt_ok) (look_cons FoOf_ok look_nil)) Tryz.func6 (by kernel_rfl) rfl FoAt_an FoAt_spec rfl rfl FoAt_qx

/-! ### noonmark/noonmarkref16.find -/
abbrev A6find_ps : Ty := (.pair .str (.pair .str .unit))
abbrev A6find_rs : Ty := (.pair (.int .i64) .unit)
def A6find_sp : Specs := look []
def A6find_an : An := (.s .o (.k [] [] 0 (.k [] [0,1,5] 0 .o (.b (.l [] [0,1,5] 0 .o))) .o))
abbrev A6find_R := Option (Int × Unit)
noncomputable abbrev A6find_c0 : Code := (cr (cr (bodyOf Tryz.f47)))
noncomputable abbrev A6find_c1 : Code := (cl (cl (cr (cl (cr (bodyOf Tryz.f47))))))
noncomputable abbrev A6find_c2 : Code := (cr (cl (cr (bodyOf Tryz.f47))))
noncomputable abbrev A6find_a0 : An := A6find_an.right.right
noncomputable abbrev A6find_a1 : An := A6find_an.right.left.right.left.left
noncomputable abbrev A6find_a2 : An := A6find_an.right.left.right.left
noncomputable abbrev A6find_a3 : An := A6find_an.right.left.right
noncomputable abbrev A6find_K0 (r2 k0 : St → A6find_R) : Ex → St → A6find_R := (kSeq r2 A6find_a2 (kBlk 0 (kSeq k0 A6find_an.right (kFin Tryz.prog A6find_rs Tryz.f47))))
noncomputable abbrev A6find_K1 (k0 : St → A6find_R) : Ex → St → A6find_R := (kSeq k0 A6find_an.right (kFin Tryz.prog A6find_rs Tryz.f47))
abbrev A6find_t0 := Unit
def A6find_m0 (_z : A6find_t0) : St := ⟨(jk 25 []), []⟩
abbrev A6find_t1 := ByteArray × ByteArray × Int
def A6find_m1 (z : A6find_t1) : St := ⟨(.v ⟨.str, z.1⟩ :: .v ⟨.str, z.2.1⟩ :: jk 3 (.v ⟨(.int .i64), z.2.2⟩ :: jk 19 [])), []⟩
abbrev A6find_t2 := ByteArray × ByteArray × Int
def A6find_m2 (z : A6find_t2) : St := ⟨(.v ⟨.str, z.1⟩ :: .v ⟨.str, z.2.1⟩ :: jk 3 (.v ⟨(.int .i64), z.2.2⟩ :: jk 19 [])), []⟩
def A6find_p0 (_n : Nat) (_z : A6find_t0) : A6find_R :=
  some ((-1 : Int), ())
def A6find_s0 (n : Nat) (z : A6find_t0) : A6find_R := A6find_p0 n z
theorem A6find_e0 (n : Nat) (rc : RC A6find_R) (z : A6find_t0) : codeR rc Tryz.prog A6find_sp n A6find_c0 A6find_a0 (A6find_m0 z) (kFin Tryz.prog A6find_rs Tryz.f47) = A6find_p0 n z := by kernel_rfl
theorem A6find_q0 (n : Nat) (z : A6find_t0) : codeK Tryz.prog A6find_sp n A6find_c0 A6find_a0 (A6find_m0 z) (kFin Tryz.prog A6find_rs Tryz.f47) = A6find_s0 n z := by
  rw [codeK_R, A6find_e0]
  rfl
def A6find_p2 (_n : Nat) (k0 : A6find_t0 → A6find_R) (r2 : A6find_t2 → A6find_R) (z : A6find_t2) : A6find_R :=
  bif (decide ((w64 (z.2.2 + (ByteArray.size z.2.1 : Int))) ≤ (ByteArray.size z.1 : Int))) then
    let t2 := w64 (z.2.2 + (ByteArray.size z.2.1 : Int))
    bif decide (0 ≤ t2 ∧ t2 ≤ ((ByteArray.size z.1 : Nat) : Int)) then
      bif decide (0 ≤ z.2.2 ∧ z.2.2 ≤ (((Int.toNat t2) : Nat) : Int)) then
        bif ((ByteArray.extract z.1 (Int.toNat z.2.2) (Int.toNat t2)).toList == z.2.1.toList) then
          some (z.2.2, ())
        else
          r2 (z.1, z.2.1, (w64 (z.2.2 + 1)))
      else none
    else none
  else
    k0 ()
def A6find_s2 (n : Nat) (k0 : A6find_t0 → A6find_R) (r2 : A6find_t2 → A6find_R) (z : A6find_t2) : A6find_R := A6find_p2 n k0 r2 z
theorem A6find_e2 (n : Nat) (k0 : St → A6find_R) (r2 : St → A6find_R) (rc : RC A6find_R) (z : A6find_t2) : codeR rc Tryz.prog A6find_sp n A6find_c1 A6find_a1 (A6find_m2 z) (A6find_K0 r2 k0) = A6find_p2 n (fun y => k0 (A6find_m0 y)) (fun y => r2 (A6find_m2 y)) z := by kernel_rfl
theorem A6find_q2 (n : Nat) (k0 : St → A6find_R) (r2 : St → A6find_R) (z : A6find_t2) : codeK Tryz.prog A6find_sp n A6find_c1 A6find_a1 (A6find_m2 z) (A6find_K0 r2 k0) = A6find_s2 n (fun y => k0 (A6find_m0 y)) (fun y => r2 (A6find_m2 y)) z := by
  rw [codeK_R, A6find_e2]
  rfl
def A6find_s1 (n : Nat) (k0 : A6find_t0 → A6find_R) (z : A6find_t1) : A6find_R :=
  rounds (fun r2 x' => A6find_s2 n k0 r2 x') n (z.1, z.2.1, z.2.2)
theorem A6find_q1 (n : Nat) (k0 : St → A6find_R) (z : A6find_t1) : codeK Tryz.prog A6find_sp n A6find_c2 A6find_a3 (A6find_m1 z) (A6find_K1 k0) = A6find_s1 n (fun y => k0 (A6find_m0 y)) z :=
  Eq.trans (b := rounds (fun r2 st => codeK Tryz.prog A6find_sp n A6find_c1 A6find_a1 st (A6find_K0 r2 k0)) n (A6find_m2 (z.1, z.2.1, z.2.2))) (by kernel_rfl) (rounds_mk A6find_m2 (fun r2 x' => by
    have := (A6find_q2 n k0 r2 x')
    exact this) n _)
def A6find_px (_n : Nat) (k0 : A6find_t0 → A6find_R) (k1 : A6find_t1 → A6find_R) (x : (ByteArray × (ByteArray × Unit))) : A6find_R :=
  k1 (x.1, x.2.1, (0 : Int))
def A6find (n : Nat) (x : (ByteArray × (ByteArray × Unit))) : A6find_R := A6find_px n (A6find_s0 n) (A6find_s1 n (A6find_s0 n)) x
theorem A6find_ex (n : Nat) (rc : RC A6find_R) (x : (ByteArray × (ByteArray × Unit))) : codeR rc Tryz.prog A6find_sp n (bodyOf Tryz.f47) A6find_an (start A6find_ps x (Func.ntmps Tryz.f47)) (kFin Tryz.prog A6find_rs Tryz.f47) = A6find_px n (fun y => rc A6find_c0 A6find_a0 (A6find_m0 y) (kFin Tryz.prog A6find_rs Tryz.f47)) (fun y => rc A6find_c2 A6find_a3 (A6find_m1 y) (A6find_K1 (fun st => rc A6find_c0 A6find_a0 st (kFin Tryz.prog A6find_rs Tryz.f47)))) x := by kernel_rfl
theorem A6find_qx (n : Nat) (x : (ByteArray × (ByteArray × Unit))) : codeK Tryz.prog A6find_sp n (bodyOf Tryz.f47) A6find_an (start A6find_ps x (Func.ntmps Tryz.f47)) (kFin Tryz.prog A6find_rs Tryz.f47) = A6find n x := by
  have h0 : (fun y => codeK Tryz.prog A6find_sp n A6find_c0 A6find_a0 (A6find_m0 y) (kFin Tryz.prog A6find_rs Tryz.f47)) = (A6find_s0 n) := funext fun y => by
    have := A6find_q0 n  y
    exact this
  have h1 : (fun y => codeK Tryz.prog A6find_sp n A6find_c2 A6find_a3 (A6find_m1 y) (A6find_K1 (fun st => codeK Tryz.prog A6find_sp n A6find_c0 A6find_a0 st (kFin Tryz.prog A6find_rs Tryz.f47)))) = (A6find_s1 n (A6find_s0 n)) := funext fun y => by
    have := A6find_q1 n (fun st => codeK Tryz.prog A6find_sp n A6find_c0 A6find_a0 st (kFin Tryz.prog A6find_rs Tryz.f47)) y
    rw [h0] at this; exact this
  rw [codeK_R, A6find_ex]
  rw [h0]
  rw [h1]
  rfl
def A6find_spec : Sp := ⟨A6find_ps, A6find_rs, A6find⟩
theorem A6find_ok : SoundX Tryz.prog CG 47 (.f A6find_spec) := sound_of look_nil Tryz.func47 (by kernel_rfl) rfl A6find_an A6find_spec rfl rfl A6find_qx

/-! ### noonmark/noonmarkref16.two -/
abbrev A6two_ps : Ty := (.pair (.int .i64) .unit)
abbrev A6two_rs : Ty := (.pair .str .unit)
def A6two_sp : Specs := look []
def A6two_an : An := .o
abbrev A6two_R := Option (ByteArray × Unit)

def A6two_px (_n : Nat) (x : (Int × Unit)) : A6two_R :=
  some ((ofBytes (((w8 (w64 (48 + (Int.tmod (w64 (Int.tdiv x.1 (10 : Int))) (10 : Int))))) :: (w8 (w64 (48 + (Int.tmod x.1 (10 : Int))))) :: []))), ())
def A6two (n : Nat) (x : (Int × Unit)) : A6two_R := A6two_px n x
theorem A6two_ex (n : Nat) (rc : RC A6two_R) (x : (Int × Unit)) : codeR rc Tryz.prog A6two_sp n (bodyOf Tryz.f73) A6two_an (start A6two_ps x (Func.ntmps Tryz.f73)) (kFin Tryz.prog A6two_rs Tryz.f73) = A6two_px n x := by kernel_rfl
theorem A6two_qx (n : Nat) (x : (Int × Unit)) : codeK Tryz.prog A6two_sp n (bodyOf Tryz.f73) A6two_an (start A6two_ps x (Func.ntmps Tryz.f73)) (kFin Tryz.prog A6two_rs Tryz.f73) = A6two n x := by
  rw [codeK_R, A6two_ex]
  rfl
def A6two_spec : Sp := ⟨A6two_ps, A6two_rs, A6two⟩
theorem A6two_ok : SoundX Tryz.prog CG 73 (.f A6two_spec) := sound_of look_nil Tryz.func73 (by kernel_rfl) rfl A6two_an A6two_spec rfl rfl A6two_qx

/-! ### noonmark/noonmarkref16.Digits -/
abbrev A6Digits_ps : Ty := (.pair (.int .i64) .unit)
abbrev A6Digits_rs : Ty := (.pair .str .unit)
def A6Digits_sp : Specs := look [(73, .f A6two_spec)]
def A6Digits_an : An := (.s .o (.s .o (.k [] [0,3] 0 .o (.s .o (.k [] [0,3] 0 .o (.k [] [3] 0 .o .o))))))
abbrev A6Digits_R := Option (ByteArray × Unit)
noncomputable abbrev A6Digits_c0 : Code := (cr (cr (cr (cr (cr (cr (bodyOf Tryz.f48)))))))
noncomputable abbrev A6Digits_c1 : Code := (cr (cr (cr (cr (cr (bodyOf Tryz.f48))))))
noncomputable abbrev A6Digits_c2 : Code := (cr (cr (cr (bodyOf Tryz.f48))))
noncomputable abbrev A6Digits_a0 : An := A6Digits_an.right.right.right.right.right.right
noncomputable abbrev A6Digits_a1 : An := A6Digits_an.right.right.right.right.right
noncomputable abbrev A6Digits_a2 : An := A6Digits_an.right.right.right
abbrev A6Digits_t0 := Int × ByteArray
def A6Digits_m0 (z : A6Digits_t0) : St := ⟨(.v ⟨(.int .i64), z.1⟩ :: .junk :: .junk :: .v ⟨.str, z.2⟩ :: jk 27 []), []⟩
abbrev A6Digits_t1 := Int × ByteArray
def A6Digits_m1 (z : A6Digits_t1) : St := ⟨(.v ⟨(.int .i64), z.1⟩ :: .junk :: .junk :: .v ⟨.str, z.2⟩ :: jk 27 []), []⟩
abbrev A6Digits_t2 := ByteArray
def A6Digits_m2 (z : A6Digits_t2) : St := ⟨(jk 3 (.v ⟨.str, z⟩ :: jk 27 [])), []⟩
def A6Digits_p2 (_n : Nat) (z : A6Digits_t2) : A6Digits_R :=
  some (z, ())
def A6Digits_s2 (n : Nat) (z : A6Digits_t2) : A6Digits_R := A6Digits_p2 n z
theorem A6Digits_e2 (n : Nat) (rc : RC A6Digits_R) (z : A6Digits_t2) : codeR rc Tryz.prog A6Digits_sp n A6Digits_c0 A6Digits_a0 (A6Digits_m2 z) (kFin Tryz.prog A6Digits_rs Tryz.f48) = A6Digits_p2 n z := by kernel_rfl
theorem A6Digits_q2 (n : Nat) (z : A6Digits_t2) : codeK Tryz.prog A6Digits_sp n A6Digits_c0 A6Digits_a0 (A6Digits_m2 z) (kFin Tryz.prog A6Digits_rs Tryz.f48) = A6Digits_s2 n z := by
  rw [codeK_R, A6Digits_e2]
  rfl
def A6Digits_p1 (n : Nat) (k2 : A6Digits_t2 → A6Digits_R) (z : A6Digits_t1) : A6Digits_R :=
  bif ((Int.tmod z.1 (60 : Int)) != 0) then
    ((A6two n ((Int.tmod z.1 (60 : Int)), ()))).bind fun v12 =>
    bif decide (((ByteArray.size z.2 + ByteArray.size v12.1 : Nat) : Int) > IntKind.i64.max) then none else
    k2 (z.2 ++ v12.1)
  else
    k2 z.2
def A6Digits_s1 (n : Nat) (z : A6Digits_t1) : A6Digits_R := A6Digits_p1 n (A6Digits_s2 n) z
theorem A6Digits_e1 (n : Nat) (rc : RC A6Digits_R) (z : A6Digits_t1) : codeR rc Tryz.prog A6Digits_sp n A6Digits_c1 A6Digits_a1 (A6Digits_m1 z) (kFin Tryz.prog A6Digits_rs Tryz.f48) = A6Digits_p1 n (fun y => rc A6Digits_c0 A6Digits_a0 (A6Digits_m2 y) (kFin Tryz.prog A6Digits_rs Tryz.f48)) z := by kernel_rfl
theorem A6Digits_q1 (n : Nat) (z : A6Digits_t1) : codeK Tryz.prog A6Digits_sp n A6Digits_c1 A6Digits_a1 (A6Digits_m1 z) (kFin Tryz.prog A6Digits_rs Tryz.f48) = A6Digits_s1 n z := by
  have h2 : (fun y => codeK Tryz.prog A6Digits_sp n A6Digits_c0 A6Digits_a0 (A6Digits_m2 y) (kFin Tryz.prog A6Digits_rs Tryz.f48)) = (A6Digits_s2 n) := funext fun y => by
    have := A6Digits_q2 n  y
    exact this
  rw [codeK_R, A6Digits_e1]
  rw [h2]
  rfl
def A6Digits_p0 (n : Nat) (k1 : A6Digits_t1 → A6Digits_R) (z : A6Digits_t0) : A6Digits_R :=
  ((A6two n ((w64 (Int.tdiv z.1 (3600 : Int))), ()))).bind fun v3 =>
  bif decide (((ByteArray.size z.2 + ByteArray.size v3.1 : Nat) : Int) > IntKind.i64.max) then none else
  let t4 := z.2 ++ v3.1
  bif ((Int.tmod z.1 (3600 : Int)) != 0) then
    ((A6two n ((Int.tmod (w64 (Int.tdiv z.1 (60 : Int))) (60 : Int)), ()))).bind fun v8 =>
    bif decide (((ByteArray.size t4 + ByteArray.size v8.1 : Nat) : Int) > IntKind.i64.max) then none else
    k1 (z.1, (t4 ++ v8.1))
  else
    k1 (z.1, t4)
def A6Digits_s0 (n : Nat) (z : A6Digits_t0) : A6Digits_R := A6Digits_p0 n (A6Digits_s1 n) z
theorem A6Digits_e0 (n : Nat) (rc : RC A6Digits_R) (z : A6Digits_t0) : codeR rc Tryz.prog A6Digits_sp n A6Digits_c2 A6Digits_a2 (A6Digits_m0 z) (kFin Tryz.prog A6Digits_rs Tryz.f48) = A6Digits_p0 n (fun y => rc A6Digits_c1 A6Digits_a1 (A6Digits_m1 y) (kFin Tryz.prog A6Digits_rs Tryz.f48)) z := by kernel_rfl
theorem A6Digits_q0 (n : Nat) (z : A6Digits_t0) : codeK Tryz.prog A6Digits_sp n A6Digits_c2 A6Digits_a2 (A6Digits_m0 z) (kFin Tryz.prog A6Digits_rs Tryz.f48) = A6Digits_s0 n z := by
  have h1 : (fun y => codeK Tryz.prog A6Digits_sp n A6Digits_c1 A6Digits_a1 (A6Digits_m1 y) (kFin Tryz.prog A6Digits_rs Tryz.f48)) = (A6Digits_s1 n) := funext fun y => by
    have := A6Digits_q1 n  y
    exact this
  rw [codeK_R, A6Digits_e0]
  rw [h1]
  rfl
def A6Digits_px (_n : Nat) (k0 : A6Digits_t0 → A6Digits_R) (x : (Int × Unit)) : A6Digits_R :=
  bif (decide (x.1 < 0)) then
    k0 ((w64 (0 - x.1)), (⟨#[45]⟩ : ByteArray))
  else
    k0 (x.1, (⟨#[43]⟩ : ByteArray))
def A6Digits (n : Nat) (x : (Int × Unit)) : A6Digits_R := A6Digits_px n (A6Digits_s0 n) x
theorem A6Digits_ex (n : Nat) (rc : RC A6Digits_R) (x : (Int × Unit)) : codeR rc Tryz.prog A6Digits_sp n (bodyOf Tryz.f48) A6Digits_an (start A6Digits_ps x (Func.ntmps Tryz.f48)) (kFin Tryz.prog A6Digits_rs Tryz.f48) = A6Digits_px n (fun y => rc A6Digits_c2 A6Digits_a2 (A6Digits_m0 y) (kFin Tryz.prog A6Digits_rs Tryz.f48)) x := by kernel_rfl
theorem A6Digits_qx (n : Nat) (x : (Int × Unit)) : codeK Tryz.prog A6Digits_sp n (bodyOf Tryz.f48) A6Digits_an (start A6Digits_ps x (Func.ntmps Tryz.f48)) (kFin Tryz.prog A6Digits_rs Tryz.f48) = A6Digits n x := by
  have h0 : (fun y => codeK Tryz.prog A6Digits_sp n A6Digits_c2 A6Digits_a2 (A6Digits_m0 y) (kFin Tryz.prog A6Digits_rs Tryz.f48)) = (A6Digits_s0 n) := funext fun y => by
    have := A6Digits_q0 n  y
    exact this
  rw [codeK_R, A6Digits_ex]
  rw [h0]
  rfl
def A6Digits_spec : Sp := ⟨A6Digits_ps, A6Digits_rs, A6Digits⟩
theorem A6Digits_ok : SoundX Tryz.prog CG 48 (.f A6Digits_spec) := sound_of (look_cons A6two_ok look_nil) Tryz.func48 (by kernel_rfl) rfl A6Digits_an A6Digits_spec rfl rfl A6Digits_qx

/-! ### noonmark/noonmarkref16.Plain -/
abbrev A6Plain_ps : Ty := (.pair .str .unit)
abbrev A6Plain_rs : Ty := (.pair .bool .unit)
def A6Plain_sp : Specs := look []
def A6Plain_an : An := (.s .o (.s .o (.k [] [] 0 (.k [] [0,3] 0 .o (.b (.l [] [0,3] 0 (.s .o (.k [] [0,3] 0 (.b (.s .o (.k [] [0,3,52] 0 .o .o))) .o))))) .o)))
abbrev A6Plain_R := Option (Bool × Unit)
noncomputable abbrev A6Plain_c0 : Code := (cr (cr (cr (bodyOf Tryz.f49))))
noncomputable abbrev A6Plain_c1 : Code := (cr (cr (cl (cl (cr (cl (cr (cr (bodyOf Tryz.f49)))))))))
noncomputable abbrev A6Plain_c2 : Code := (cr (cr (cl (cl (cr (cl (cl (cr (cl (cr (cr (bodyOf Tryz.f49))))))))))))
noncomputable abbrev A6Plain_c3 : Code := (cl (cl (cr (cl (cr (cr (bodyOf Tryz.f49)))))))
noncomputable abbrev A6Plain_c4 : Code := (cr (cl (cr (cr (bodyOf Tryz.f49)))))
noncomputable abbrev A6Plain_a0 : An := A6Plain_an.right.right.right
noncomputable abbrev A6Plain_a1 : An := A6Plain_an.right.right.left.right.left.left.right.right
noncomputable abbrev A6Plain_a2 : An := A6Plain_an.right.right
noncomputable abbrev A6Plain_a3 : An := A6Plain_an.right.right.left.right.left
noncomputable abbrev A6Plain_a4 : An := A6Plain_an.right.right.left.right.left.left.right.left.left.right.right
noncomputable abbrev A6Plain_a5 : An := A6Plain_an.right.right.left.right.left.left.right
noncomputable abbrev A6Plain_a6 : An := A6Plain_an.right.right.left.right.left.left
noncomputable abbrev A6Plain_a7 : An := A6Plain_an.right.right.left.right
noncomputable abbrev A6Plain_K0 (r2 k0 : St → A6Plain_R) : Ex → St → A6Plain_R := (kSeq r2 A6Plain_a3 (kBlk 0 (kSeq k0 A6Plain_a2 (kFin Tryz.prog A6Plain_rs Tryz.f49))))
noncomputable abbrev A6Plain_K1 (k3 r2 k0 : St → A6Plain_R) : Ex → St → A6Plain_R := (kBlk 1 (kSeq k3 A6Plain_a5 (kSeq r2 A6Plain_a3 (kBlk 0 (kSeq k0 A6Plain_a2 (kFin Tryz.prog A6Plain_rs Tryz.f49))))))
noncomputable abbrev A6Plain_K2 (r2 k0 : St → A6Plain_R) : Ex → St → A6Plain_R := (kSeq r2 A6Plain_a3 (kBlk 0 (kSeq k0 A6Plain_a2 (kFin Tryz.prog A6Plain_rs Tryz.f49))))
noncomputable abbrev A6Plain_K3 (k0 : St → A6Plain_R) : Ex → St → A6Plain_R := (kSeq k0 A6Plain_a2 (kFin Tryz.prog A6Plain_rs Tryz.f49))
abbrev A6Plain_t0 := Unit
def A6Plain_m0 (_z : A6Plain_t0) : St := ⟨(jk 53 []), []⟩
abbrev A6Plain_t1 := ByteArray × Int
def A6Plain_m1 (z : A6Plain_t1) : St := ⟨(.v ⟨.str, z.1⟩ :: .junk :: .junk :: .v ⟨(.int .i64), z.2⟩ :: jk 49 []), []⟩
abbrev A6Plain_t2 := ByteArray × Int
def A6Plain_m2 (z : A6Plain_t2) : St := ⟨(.v ⟨.str, z.1⟩ :: .junk :: .junk :: .v ⟨(.int .i64), z.2⟩ :: jk 49 []), []⟩
abbrev A6Plain_t3 := ByteArray × Int
def A6Plain_m3 (z : A6Plain_t3) : St := ⟨(.v ⟨.str, z.1⟩ :: .junk :: .junk :: .v ⟨(.int .i64), z.2⟩ :: jk 49 []), []⟩
abbrev A6Plain_t4 := ByteArray × Int × Bool
def A6Plain_m4 (z : A6Plain_t4) : St := ⟨(.v ⟨.str, z.1⟩ :: .junk :: .junk :: .v ⟨(.int .i64), z.2.1⟩ :: jk 48 (.v ⟨.bool, z.2.2⟩ :: [])), []⟩
def A6Plain_p0 (_n : Nat) (_z : A6Plain_t0) : A6Plain_R :=
  some (true, ())
def A6Plain_s0 (n : Nat) (z : A6Plain_t0) : A6Plain_R := A6Plain_p0 n z
theorem A6Plain_e0 (n : Nat) (rc : RC A6Plain_R) (z : A6Plain_t0) : codeR rc Tryz.prog A6Plain_sp n A6Plain_c0 A6Plain_a0 (A6Plain_m0 z) (kFin Tryz.prog A6Plain_rs Tryz.f49) = A6Plain_p0 n z := by kernel_rfl
theorem A6Plain_q0 (n : Nat) (z : A6Plain_t0) : codeK Tryz.prog A6Plain_sp n A6Plain_c0 A6Plain_a0 (A6Plain_m0 z) (kFin Tryz.prog A6Plain_rs Tryz.f49) = A6Plain_s0 n z := by
  rw [codeK_R, A6Plain_e0]
  rfl
def A6Plain_p3 (_n : Nat) (_k0 : A6Plain_t0 → A6Plain_R) (r2 : A6Plain_t2 → A6Plain_R) (z : A6Plain_t3) : A6Plain_R :=
  r2 (z.1, (w64 (z.2 + 1)))
def A6Plain_s3 (n : Nat) (k0 : A6Plain_t0 → A6Plain_R) (r2 : A6Plain_t2 → A6Plain_R) (z : A6Plain_t3) : A6Plain_R := A6Plain_p3 n k0 r2 z
theorem A6Plain_e3 (n : Nat) (k0 : St → A6Plain_R) (r2 : St → A6Plain_R) (rc : RC A6Plain_R) (z : A6Plain_t3) : codeR rc Tryz.prog A6Plain_sp n A6Plain_c1 A6Plain_a1 (A6Plain_m3 z) (A6Plain_K0 r2 k0) = A6Plain_p3 n (fun y => k0 (A6Plain_m0 y)) (fun y => r2 (A6Plain_m2 y)) z := by kernel_rfl
theorem A6Plain_q3 (n : Nat) (k0 : St → A6Plain_R) (r2 : St → A6Plain_R) (z : A6Plain_t3) : codeK Tryz.prog A6Plain_sp n A6Plain_c1 A6Plain_a1 (A6Plain_m3 z) (A6Plain_K0 r2 k0) = A6Plain_s3 n (fun y => k0 (A6Plain_m0 y)) (fun y => r2 (A6Plain_m2 y)) z := by
  rw [codeK_R, A6Plain_e3]
  rfl
def A6Plain_p4 (_n : Nat) (_k0 : A6Plain_t0 → A6Plain_R) (_r2 : A6Plain_t2 → A6Plain_R) (k3 : A6Plain_t3 → A6Plain_R) (z : A6Plain_t4) : A6Plain_R :=
  bif z.2.2 then
    some (false, ())
  else
    k3 (z.1, z.2.1)
def A6Plain_s4 (n : Nat) (k0 : A6Plain_t0 → A6Plain_R) (r2 : A6Plain_t2 → A6Plain_R) (k3 : A6Plain_t3 → A6Plain_R) (z : A6Plain_t4) : A6Plain_R := A6Plain_p4 n k0 r2 k3 z
theorem A6Plain_e4 (n : Nat) (k0 : St → A6Plain_R) (r2 : St → A6Plain_R) (k3 : St → A6Plain_R) (rc : RC A6Plain_R) (z : A6Plain_t4) : codeR rc Tryz.prog A6Plain_sp n A6Plain_c2 A6Plain_a4 (A6Plain_m4 z) (A6Plain_K1 k3 r2 k0) = A6Plain_p4 n (fun y => k0 (A6Plain_m0 y)) (fun y => r2 (A6Plain_m2 y)) (fun y => k3 (A6Plain_m3 y)) z := by kernel_rfl
theorem A6Plain_q4 (n : Nat) (k0 : St → A6Plain_R) (r2 : St → A6Plain_R) (k3 : St → A6Plain_R) (z : A6Plain_t4) : codeK Tryz.prog A6Plain_sp n A6Plain_c2 A6Plain_a4 (A6Plain_m4 z) (A6Plain_K1 k3 r2 k0) = A6Plain_s4 n (fun y => k0 (A6Plain_m0 y)) (fun y => r2 (A6Plain_m2 y)) (fun y => k3 (A6Plain_m3 y)) z := by
  rw [codeK_R, A6Plain_e4]
  rfl
def A6Plain_p2 (_n : Nat) (k0 : A6Plain_t0 → A6Plain_R) (_r2 : A6Plain_t2 → A6Plain_R) (k3 : A6Plain_t3 → A6Plain_R) (k4 : A6Plain_t4 → A6Plain_R) (z : A6Plain_t2) : A6Plain_R :=
  bif (decide (z.2 < (ByteArray.size z.1 : Int))) then
    bif decide (0 ≤ z.2) then
      ((z.1[Int.toNat z.2]?)).bind fun c1 =>
      bif (decide ((c1.toNat : Int) ≥ 97)) then
        bif (decide ((c1.toNat : Int) ≤ 122)) then
          k4 (z.1, z.2, false)
        else
          bif (decide ((c1.toNat : Int) ≥ 65)) then
            bif (decide ((c1.toNat : Int) ≤ 90)) then
              k4 (z.1, z.2, false)
            else
              bif (decide ((c1.toNat : Int) ≥ 48)) then
                bif (decide ((c1.toNat : Int) ≤ 57)) then
                  k4 (z.1, z.2, false)
                else
                  bif ((c1.toNat : Int) == 43) then
                    k4 (z.1, z.2, false)
                  else
                    k4 (z.1, z.2, (!((c1.toNat : Int) == 45)))
              else
                bif ((c1.toNat : Int) == 43) then
                  k4 (z.1, z.2, false)
                else
                  k4 (z.1, z.2, (!((c1.toNat : Int) == 45)))
          else
            bif (decide ((c1.toNat : Int) ≥ 48)) then
              bif (decide ((c1.toNat : Int) ≤ 57)) then
                k4 (z.1, z.2, false)
              else
                bif ((c1.toNat : Int) == 43) then
                  k4 (z.1, z.2, false)
                else
                  k4 (z.1, z.2, (!((c1.toNat : Int) == 45)))
            else
              bif ((c1.toNat : Int) == 43) then
                k4 (z.1, z.2, false)
              else
                k4 (z.1, z.2, (!((c1.toNat : Int) == 45)))
      else
        bif (decide ((c1.toNat : Int) ≥ 65)) then
          bif (decide ((c1.toNat : Int) ≤ 90)) then
            k4 (z.1, z.2, false)
          else
            bif (decide ((c1.toNat : Int) ≥ 48)) then
              bif (decide ((c1.toNat : Int) ≤ 57)) then
                k4 (z.1, z.2, false)
              else
                bif ((c1.toNat : Int) == 43) then
                  k4 (z.1, z.2, false)
                else
                  k4 (z.1, z.2, (!((c1.toNat : Int) == 45)))
            else
              bif ((c1.toNat : Int) == 43) then
                k4 (z.1, z.2, false)
              else
                k4 (z.1, z.2, (!((c1.toNat : Int) == 45)))
        else
          bif (decide ((c1.toNat : Int) ≥ 48)) then
            bif (decide ((c1.toNat : Int) ≤ 57)) then
              k4 (z.1, z.2, false)
            else
              bif ((c1.toNat : Int) == 43) then
                k4 (z.1, z.2, false)
              else
                k4 (z.1, z.2, (!((c1.toNat : Int) == 45)))
          else
            bif ((c1.toNat : Int) == 43) then
              k4 (z.1, z.2, false)
            else
              k4 (z.1, z.2, (!((c1.toNat : Int) == 45)))
    else none
  else
    k0 ()
def A6Plain_s2 (n : Nat) (k0 : A6Plain_t0 → A6Plain_R) (r2 : A6Plain_t2 → A6Plain_R) (z : A6Plain_t2) : A6Plain_R := A6Plain_p2 n k0 r2 (A6Plain_s3 n k0 r2) (A6Plain_s4 n k0 r2 (A6Plain_s3 n k0 r2)) z
theorem A6Plain_e2 (n : Nat) (k0 : St → A6Plain_R) (r2 : St → A6Plain_R) (rc : RC A6Plain_R) (z : A6Plain_t2) : codeR rc Tryz.prog A6Plain_sp n A6Plain_c3 A6Plain_a6 (A6Plain_m2 z) (A6Plain_K2 r2 k0) = A6Plain_p2 n (fun y => k0 (A6Plain_m0 y)) (fun y => r2 (A6Plain_m2 y)) (fun y => rc A6Plain_c1 A6Plain_a1 (A6Plain_m3 y) (A6Plain_K0 r2 k0)) (fun y => rc A6Plain_c2 A6Plain_a4 (A6Plain_m4 y) (A6Plain_K1 (fun st => rc A6Plain_c1 A6Plain_a1 st (A6Plain_K0 r2 k0)) r2 k0)) z := by kernel_rfl
theorem A6Plain_q2 (n : Nat) (k0 : St → A6Plain_R) (r2 : St → A6Plain_R) (z : A6Plain_t2) : codeK Tryz.prog A6Plain_sp n A6Plain_c3 A6Plain_a6 (A6Plain_m2 z) (A6Plain_K2 r2 k0) = A6Plain_s2 n (fun y => k0 (A6Plain_m0 y)) (fun y => r2 (A6Plain_m2 y)) z := by
  have h3 : (fun y => codeK Tryz.prog A6Plain_sp n A6Plain_c1 A6Plain_a1 (A6Plain_m3 y) (A6Plain_K0 r2 k0)) = (A6Plain_s3 n (fun y => k0 (A6Plain_m0 y)) (fun y => r2 (A6Plain_m2 y))) := funext fun y => by
    have := A6Plain_q3 n k0 r2 y
    exact this
  have h4 : (fun y => codeK Tryz.prog A6Plain_sp n A6Plain_c2 A6Plain_a4 (A6Plain_m4 y) (A6Plain_K1 (fun st => codeK Tryz.prog A6Plain_sp n A6Plain_c1 A6Plain_a1 st (A6Plain_K0 r2 k0)) r2 k0)) = (A6Plain_s4 n (fun y => k0 (A6Plain_m0 y)) (fun y => r2 (A6Plain_m2 y)) (A6Plain_s3 n (fun y => k0 (A6Plain_m0 y)) (fun y => r2 (A6Plain_m2 y)))) := funext fun y => by
    have := A6Plain_q4 n k0 r2 (fun st => codeK Tryz.prog A6Plain_sp n A6Plain_c1 A6Plain_a1 st (A6Plain_K0 r2 k0)) y
    rw [h3] at this; exact this
  rw [codeK_R, A6Plain_e2]
  rw [h3]
  rw [h4]
  rfl
def A6Plain_s1 (n : Nat) (k0 : A6Plain_t0 → A6Plain_R) (z : A6Plain_t1) : A6Plain_R :=
  rounds (fun r2 x' => A6Plain_s2 n k0 r2 x') n (z.1, z.2)
theorem A6Plain_q1 (n : Nat) (k0 : St → A6Plain_R) (z : A6Plain_t1) : codeK Tryz.prog A6Plain_sp n A6Plain_c4 A6Plain_a7 (A6Plain_m1 z) (A6Plain_K3 k0) = A6Plain_s1 n (fun y => k0 (A6Plain_m0 y)) z :=
  Eq.trans (b := rounds (fun r2 st => codeK Tryz.prog A6Plain_sp n A6Plain_c3 A6Plain_a6 st (A6Plain_K2 r2 k0)) n (A6Plain_m2 (z.1, z.2))) (by kernel_rfl) (rounds_mk A6Plain_m2 (fun r2 x' => by
    have := (A6Plain_q2 n k0 r2 x')
    exact this) n _)
def A6Plain_px (_n : Nat) (k0 : A6Plain_t0 → A6Plain_R) (k1 : A6Plain_t1 → A6Plain_R) (x : (ByteArray × Unit)) : A6Plain_R :=
  bif (decide ((ByteArray.size x.1 : Int) < 3)) then
    some (false, ())
  else
    bif (decide ((ByteArray.size x.1 : Int) > 6)) then
      some (false, ())
    else
      k1 (x.1, (0 : Int))
def A6Plain (n : Nat) (x : (ByteArray × Unit)) : A6Plain_R := A6Plain_px n (A6Plain_s0 n) (A6Plain_s1 n (A6Plain_s0 n)) x
theorem A6Plain_ex (n : Nat) (rc : RC A6Plain_R) (x : (ByteArray × Unit)) : codeR rc Tryz.prog A6Plain_sp n (bodyOf Tryz.f49) A6Plain_an (start A6Plain_ps x (Func.ntmps Tryz.f49)) (kFin Tryz.prog A6Plain_rs Tryz.f49) = A6Plain_px n (fun y => rc A6Plain_c0 A6Plain_a0 (A6Plain_m0 y) (kFin Tryz.prog A6Plain_rs Tryz.f49)) (fun y => rc A6Plain_c4 A6Plain_a7 (A6Plain_m1 y) (A6Plain_K3 (fun st => rc A6Plain_c0 A6Plain_a0 st (kFin Tryz.prog A6Plain_rs Tryz.f49)))) x := by kernel_rfl
theorem A6Plain_qx (n : Nat) (x : (ByteArray × Unit)) : codeK Tryz.prog A6Plain_sp n (bodyOf Tryz.f49) A6Plain_an (start A6Plain_ps x (Func.ntmps Tryz.f49)) (kFin Tryz.prog A6Plain_rs Tryz.f49) = A6Plain n x := by
  have h0 : (fun y => codeK Tryz.prog A6Plain_sp n A6Plain_c0 A6Plain_a0 (A6Plain_m0 y) (kFin Tryz.prog A6Plain_rs Tryz.f49)) = (A6Plain_s0 n) := funext fun y => by
    have := A6Plain_q0 n  y
    exact this
  have h1 : (fun y => codeK Tryz.prog A6Plain_sp n A6Plain_c4 A6Plain_a7 (A6Plain_m1 y) (A6Plain_K3 (fun st => codeK Tryz.prog A6Plain_sp n A6Plain_c0 A6Plain_a0 st (kFin Tryz.prog A6Plain_rs Tryz.f49)))) = (A6Plain_s1 n (A6Plain_s0 n)) := funext fun y => by
    have := A6Plain_q1 n (fun st => codeK Tryz.prog A6Plain_sp n A6Plain_c0 A6Plain_a0 st (kFin Tryz.prog A6Plain_rs Tryz.f49)) y
    rw [h0] at this; exact this
  rw [codeK_R, A6Plain_ex]
  rw [h0]
  rw [h1]
  rfl
def A6Plain_spec : Sp := ⟨A6Plain_ps, A6Plain_rs, A6Plain⟩
theorem A6Plain_ok : SoundX Tryz.prog CG 49 (.f A6Plain_spec) := sound_of look_nil Tryz.func49 (by kernel_rfl) rfl A6Plain_an A6Plain_spec rfl rfl A6Plain_qx

/-! ### noonmark/noonmarkref16.Abbr -/
abbrev A6Abbr_ps : Ty := (.pair .str (.pair .str (.pair (.int .i64) (.pair .bool .unit))))
abbrev A6Abbr_rs : Ty := (.pair .str (.pair (.int .i64) .unit))
def A6Abbr_sp : Specs := look [(47, .f A6find_spec), (48, .f A6Digits_spec), (49, .f A6Plain_spec)]
def A6Abbr_an : An := (.s .o (.s .o (.s .o (.k [] [10] 0 .o .o))))
abbrev A6Abbr_R := Option (ByteArray × (Int × Unit))
noncomputable abbrev A6Abbr_c0 : Code := (cr (cr (cr (cr (bodyOf Tryz.f28)))))
noncomputable abbrev A6Abbr_a0 : An := A6Abbr_an.right.right.right.right
abbrev A6Abbr_t0 := ByteArray
def A6Abbr_m0 (z : A6Abbr_t0) : St := ⟨(jk 10 (.v ⟨.str, z⟩ :: jk 55 [])), []⟩
def A6Abbr_p0 (n : Nat) (z : A6Abbr_t0) : A6Abbr_R :=
  ((A6Plain n (z, ()))).bind fun v18 =>
  bif (!v18.1) then
    some ((⟨#[]⟩ : ByteArray), ((15 : Int), ()))
  else
    some (z, ((0 : Int), ()))
def A6Abbr_s0 (n : Nat) (z : A6Abbr_t0) : A6Abbr_R := A6Abbr_p0 n z
theorem A6Abbr_e0 (n : Nat) (rc : RC A6Abbr_R) (z : A6Abbr_t0) : codeR rc Tryz.prog A6Abbr_sp n A6Abbr_c0 A6Abbr_a0 (A6Abbr_m0 z) (kFin Tryz.prog A6Abbr_rs Tryz.f28) = A6Abbr_p0 n z := by kernel_rfl
theorem A6Abbr_q0 (n : Nat) (z : A6Abbr_t0) : codeK Tryz.prog A6Abbr_sp n A6Abbr_c0 A6Abbr_a0 (A6Abbr_m0 z) (kFin Tryz.prog A6Abbr_rs Tryz.f28) = A6Abbr_s0 n z := by
  rw [codeK_R, A6Abbr_e0]
  rfl
def A6Abbr_px (n : Nat) (k0 : A6Abbr_t0 → A6Abbr_R) (x : (ByteArray × (ByteArray × (Int × (Bool × Unit))))) : A6Abbr_R :=
  bif (decide (x.2.2.1 < (-180000))) then
    some ((⟨#[]⟩ : ByteArray), ((1 : Int), ()))
  else
    bif (decide (x.2.2.1 > 180000)) then
      some ((⟨#[]⟩ : ByteArray), ((1 : Int), ()))
    else
      ((A6find n (x.1, ((⟨#[37, 115]⟩ : ByteArray), ())))).bind fun v1 =>
      bif (decide (v1.1 ≥ 0)) then
        bif decide (0 ≤ v1.1 ∧ v1.1 ≤ ((ByteArray.size x.1 : Nat) : Int)) then
          let t2 := ByteArray.extract x.1 0 (Int.toNat v1.1)
          bif decide (((ByteArray.size t2 + ByteArray.size x.2.1 : Nat) : Int) > IntKind.i64.max) then none else
          let t3 := t2 ++ x.2.1
          let t4 := w64 (v1.1 + 2)
          bif decide (0 ≤ t4 ∧ t4 ≤ (((ByteArray.size x.1) : Nat) : Int)) then
            let t5 := ByteArray.extract x.1 (Int.toNat t4) (ByteArray.size x.1)
            bif decide (((ByteArray.size t3 + ByteArray.size t5 : Nat) : Int) > IntKind.i64.max) then none else
            k0 (t3 ++ t5)
          else none
        else none
      else
        ((A6find n (x.1, ((⟨#[37, 122]⟩ : ByteArray), ())))).bind fun v7 =>
        bif (decide (v7.1 ≥ 0)) then
          bif decide (0 ≤ v7.1 ∧ v7.1 ≤ ((ByteArray.size x.1 : Nat) : Int)) then
            let t8 := ByteArray.extract x.1 0 (Int.toNat v7.1)
            ((A6Digits n (x.2.2.1, ()))).bind fun v9 =>
            bif decide (((ByteArray.size t8 + ByteArray.size v9.1 : Nat) : Int) > IntKind.i64.max) then none else
            let t10 := t8 ++ v9.1
            let t11 := w64 (v7.1 + 2)
            bif decide (0 ≤ t11 ∧ t11 ≤ (((ByteArray.size x.1) : Nat) : Int)) then
              let t12 := ByteArray.extract x.1 (Int.toNat t11) (ByteArray.size x.1)
              bif decide (((ByteArray.size t10 + ByteArray.size t12 : Nat) : Int) > IntKind.i64.max) then none else
              k0 (t10 ++ t12)
            else none
          else none
        else
          ((A6find n (x.1, ((⟨#[47]⟩ : ByteArray), ())))).bind fun v14 =>
          bif (decide (v14.1 ≥ 0)) then
            bif x.2.2.2.1 then
              let t15 := w64 (v14.1 + 1)
              bif decide (0 ≤ t15 ∧ t15 ≤ (((ByteArray.size x.1) : Nat) : Int)) then
                k0 (ByteArray.extract x.1 (Int.toNat t15) (ByteArray.size x.1))
              else none
            else
              bif decide (0 ≤ v14.1 ∧ v14.1 ≤ ((ByteArray.size x.1 : Nat) : Int)) then
                k0 (ByteArray.extract x.1 0 (Int.toNat v14.1))
              else none
          else
            k0 x.1
def A6Abbr (n : Nat) (x : (ByteArray × (ByteArray × (Int × (Bool × Unit))))) : A6Abbr_R := A6Abbr_px n (A6Abbr_s0 n) x
theorem A6Abbr_ex (n : Nat) (rc : RC A6Abbr_R) (x : (ByteArray × (ByteArray × (Int × (Bool × Unit))))) : codeR rc Tryz.prog A6Abbr_sp n (bodyOf Tryz.f28) A6Abbr_an (start A6Abbr_ps x (Func.ntmps Tryz.f28)) (kFin Tryz.prog A6Abbr_rs Tryz.f28) = A6Abbr_px n (fun y => rc A6Abbr_c0 A6Abbr_a0 (A6Abbr_m0 y) (kFin Tryz.prog A6Abbr_rs Tryz.f28)) x := by kernel_rfl
theorem A6Abbr_qx (n : Nat) (x : (ByteArray × (ByteArray × (Int × (Bool × Unit))))) : codeK Tryz.prog A6Abbr_sp n (bodyOf Tryz.f28) A6Abbr_an (start A6Abbr_ps x (Func.ntmps Tryz.f28)) (kFin Tryz.prog A6Abbr_rs Tryz.f28) = A6Abbr n x := by
  have h0 : (fun y => codeK Tryz.prog A6Abbr_sp n A6Abbr_c0 A6Abbr_a0 (A6Abbr_m0 y) (kFin Tryz.prog A6Abbr_rs Tryz.f28)) = (A6Abbr_s0 n) := funext fun y => by
    have := A6Abbr_q0 n  y
    exact this
  rw [codeK_R, A6Abbr_ex]
  rw [h0]
  rfl
def A6Abbr_spec : Sp := ⟨A6Abbr_ps, A6Abbr_rs, A6Abbr⟩
theorem A6Abbr_ok : SoundX Tryz.prog CG 28 (.f A6Abbr_spec) := sound_of (look_cons A6find_ok (look_cons A6Digits_ok (look_cons A6Plain_ok look_nil))) Tryz.func28 (by kernel_rfl) rfl A6Abbr_an A6Abbr_spec rfl rfl A6Abbr_qx

/-! ### noonmark/noonmarkref16.Of -/
abbrev A6Of_ps : Ty := (.pair T_api_Era (.pair T_DeState .unit))
abbrev A6Of_rs : Ty := (.pair T_api_Local (.pair (.int .i64) .unit))
def A6Of_sp : Specs := look [(28, .f A6Abbr_spec)]
def A6Of_an : An := .o
abbrev A6Of_R := Option (D_api_Local × (Int × Unit))

def A6Of_px (n : Nat) (x : (D_api_Era × (D_DeState × Unit))) : A6Of_R :=
  let t1 := w64 (x.1.1 + x.2.1.2.1)
  ((A6Abbr n (x.1.2.2.2.2.1, (x.2.1.2.2.1, (t1, ((x.2.1.2.1 != 0), ())))))).bind fun v2 =>
  bif (v2.2.1 != 0) then
    some (((0 : Int), (false, ((⟨#[]⟩ : ByteArray), ()))), (v2.2.1, ()))
  else
    some ((t1, ((x.2.1.2.1 != 0), (v2.1, ()))), ((0 : Int), ()))
def A6Of (n : Nat) (x : (D_api_Era × (D_DeState × Unit))) : A6Of_R := A6Of_px n x
theorem A6Of_ex (n : Nat) (rc : RC A6Of_R) (x : (D_api_Era × (D_DeState × Unit))) : codeR rc Tryz.prog A6Of_sp n (bodyOf Tryz.f14) A6Of_an (start A6Of_ps x (Func.ntmps Tryz.f14)) (kFin Tryz.prog A6Of_rs Tryz.f14) = A6Of_px n x := by kernel_rfl
theorem A6Of_qx (n : Nat) (x : (D_api_Era × (D_DeState × Unit))) : codeK Tryz.prog A6Of_sp n (bodyOf Tryz.f14) A6Of_an (start A6Of_ps x (Func.ntmps Tryz.f14)) (kFin Tryz.prog A6Of_rs Tryz.f14) = A6Of n x := by
  rw [codeK_R, A6Of_ex]
  rfl
def A6Of_spec : Sp := ⟨A6Of_ps, A6Of_rs, A6Of⟩
theorem A6Of_ok : SoundX Tryz.prog CG 14 (.f A6Of_spec) := sound_of (look_cons A6Abbr_ok look_nil) Tryz.func14 (by kernel_rfl) rfl A6Of_an A6Of_spec rfl rfl A6Of_qx

/-! ### noonmark/noonmarkref16.At -/
abbrev A6At_ps : Ty := (.pair T_A5Zone (.pair (.int .i64) .unit))
abbrev A6At_rs : Ty := (.pair T_api_Local (.pair (.int .i64) .unit))
def A6At_sp : Specs := look [(13, .f A5At_spec), (14, .f A6Of_spec)]
def A6At_an : An := .o
abbrev A6At_R := Option (D_api_Local × (Int × Unit))

def A6At_px (n : Nat) (x : (D_A5Zone × (Int × Unit))) : A6At_R :=
  ((A5At n (x.1, (x.2.1, ())))).bind fun v1 =>
  bif (v1.2.1 != 0) then
    some (((0 : Int), (false, ((⟨#[]⟩ : ByteArray), ()))), (v1.2.1, ()))
  else
    bif decide (0 ≤ v1.1.1) then
      ((x.1.1[Int.toNat v1.1.1]?)).bind fun e2 =>
      ((A6Of n (e2, (v1.1, ())))).bind fun v3 =>
      some (v3.1, (v3.2.1, ()))
    else none
def A6At (n : Nat) (x : (D_A5Zone × (Int × Unit))) : A6At_R := A6At_px n x
theorem A6At_ex (n : Nat) (rc : RC A6At_R) (x : (D_A5Zone × (Int × Unit))) : codeR rc Tryz.prog A6At_sp n (bodyOf Tryz.f8) A6At_an (start A6At_ps x (Func.ntmps Tryz.f8)) (kFin Tryz.prog A6At_rs Tryz.f8) = A6At_px n x := by kernel_rfl
theorem A6At_qx (n : Nat) (x : (D_A5Zone × (Int × Unit))) : codeK Tryz.prog A6At_sp n (bodyOf Tryz.f8) A6At_an (start A6At_ps x (Func.ntmps Tryz.f8)) (kFin Tryz.prog A6At_rs Tryz.f8) = A6At n x := by
  rw [codeK_R, A6At_ex]
  rfl
def A6At_spec : Sp := ⟨A6At_ps, A6At_rs, A6At⟩
theorem A6At_ok : SoundX Tryz.prog CG 8 (.f A6At_spec) := sound_of (look_cons (weak_CG (fun _ => trivial) A5At_ok) (look_cons A6Of_ok look_nil)) Tryz.func8 (by kernel_rfl) rfl A6At_an A6At_spec rfl rfl A6At_qx

/-! ### noonmark/noonmarklaw16.FormatAts -/
abbrev B6FormatAts_ps : Ty := (.pair T_A5Zone (.pair (.int .i64) .unit))
abbrev B6FormatAts_rs : Ty := (.pair .bool .unit)
def B6FormatAts_sp : Specs := look [(4, .f B5Light_spec), (5, .f B6alive_spec), (6, .f FoAt_spec), (7, .f B5Own_spec), (8, .f A6At_spec)]
def B6FormatAts_an : An := .o
abbrev B6FormatAts_R := Option (Bool × Unit)
noncomputable abbrev B6FormatAts_K0 : Ex → St → B6FormatAts_R := (kFin Tryz.prog B6FormatAts_rs Tryz.f3)
def B6FormatAts_px (n : Nat) (x : (D_A5Zone × (Int × Unit))) : B6FormatAts_R :=
  ((B5Light n (x.1, ()))).bind fun v1 =>
  bif (!v1.1) then
    ((B6alive n ())).bind fun v2 =>
    some (v2.1, ())
  else
    ((B5Own n (x.1, ()))).bind fun v3 =>
    ((FoAt n (v3.1, (x.2.1, ())))).bind fun v4 =>
    ((A6At n (x.1, (x.2.1, ())))).bind fun v5 =>
    bif (eqD T_api_Local v4.1 v5.1) then
      bif (v4.2.1 == v5.2.1) then
        ((B6alive n ())).bind fun v6 =>
        some (v6.1, ())
      else
        some (false, ())
    else
      some (false, ())
def B6FormatAts (n : Nat) (x : (D_A5Zone × (Int × Unit))) : B6FormatAts_R := B6FormatAts_px n x
theorem B6FormatAts_ex (n : Nat) (rc : RC B6FormatAts_R) (x : (D_A5Zone × (Int × Unit))) : codeR rc Tryz.prog B6FormatAts_sp n (bodyOf Tryz.f3) B6FormatAts_an (start B6FormatAts_ps x (Func.ntmps Tryz.f3)) B6FormatAts_K0 = B6FormatAts_px n x := by kernel_rfl
theorem B6FormatAts_qx (n : Nat) (x : (D_A5Zone × (Int × Unit))) : codeK Tryz.prog B6FormatAts_sp n (bodyOf Tryz.f3) B6FormatAts_an (start B6FormatAts_ps x (Func.ntmps Tryz.f3)) B6FormatAts_K0 = B6FormatAts n x := by
  rw [codeK_R, B6FormatAts_ex]
  rfl
def B6FormatAts_spec : Sp := ⟨B6FormatAts_ps, B6FormatAts_rs, B6FormatAts⟩
theorem B6FormatAts_ok : SoundX Tryz.prog CG 3 (.f B6FormatAts_spec) := sound_of (look_cons (weak_CG (fun _ => trivial) B5Light_ok) (look_cons B6alive_ok (look_cons FoAt_ok (look_cons (weak_CG (fun _ => trivial) B5Own_ok) (look_cons A6At_ok look_nil))))) Tryz.func3 (by kernel_rfl) rfl B6FormatAts_an B6FormatAts_spec rfl rfl B6FormatAts_qx
end Go.Proofs.YtadamegddcadcaaGreatDoorPi
