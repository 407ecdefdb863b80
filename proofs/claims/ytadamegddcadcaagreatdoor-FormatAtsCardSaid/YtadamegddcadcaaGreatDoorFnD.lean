import Derived.Test.YtadamegddcadcaaGreatDoorFnC
set_option linter.unusedVariables false
set_option maxRecDepth 100000
set_option maxHeartbeats 4000000
set_option linter.unusedVariables false
namespace Go.Proofs.YtadamegddcadcaaGreatDoorPi
open Go Go.Proofs

/-! ### noonmark/noonmarkref04.Leap -/
abbrev A2Leap_ps : Ty := (.pair (.int .i64) .unit)
abbrev A2Leap_rs : Ty := (.pair .bool .unit)
def A2Leap_sp : Specs := look []
def A2Leap_an : An := .o
abbrev A2Leap_R := Option (Bool × Unit)

def A2Leap_px (_n : Nat) (x : (Int × Unit)) : A2Leap_R :=
  bif ((Int.tmod x.1 (4 : Int)) == 0) then
    bif ((Int.tmod x.1 (100 : Int)) != 0) then
      some (true, ())
    else
      some (((Int.tmod x.1 (400 : Int)) == 0), ())
  else
    some (((Int.tmod x.1 (400 : Int)) == 0), ())
def A2Leap (n : Nat) (x : (Int × Unit)) : A2Leap_R := A2Leap_px n x
theorem A2Leap_ex (n : Nat) (rc : RC A2Leap_R) (x : (Int × Unit)) : codeR rc Tryz.prog A2Leap_sp n (bodyOf Tryz.f95) A2Leap_an (start A2Leap_ps x (Func.ntmps Tryz.f95)) (kFin Tryz.prog A2Leap_rs Tryz.f95) = A2Leap_px n x := by kernel_rfl
theorem A2Leap_qx (n : Nat) (x : (Int × Unit)) : codeK Tryz.prog A2Leap_sp n (bodyOf Tryz.f95) A2Leap_an (start A2Leap_ps x (Func.ntmps Tryz.f95)) (kFin Tryz.prog A2Leap_rs Tryz.f95) = A2Leap n x := by
  rw [codeK_R, A2Leap_ex]
  rfl
def A2Leap_spec : Sp := ⟨A2Leap_ps, A2Leap_rs, A2Leap⟩
theorem A2Leap_ok : SoundX Tryz.prog CX 95 (.f A2Leap_spec) := sound_of look_nil Tryz.func95 (by kernel_rfl) rfl A2Leap_an A2Leap_spec rfl rfl A2Leap_qx

/-! ### noonmark/noonmarkref04.year -/
abbrev A2year_ps : Ty := (.pair (.int .i64) .unit)
abbrev A2year_rs : Ty := (.pair (.int .i64) .unit)
def A2year_sp : Specs := look [(95, .f A2Leap_spec)]
def A2year_an : An := (.s .o (.s .o (.k [] [0,3,4] 0 .o (.k [] [0,3,4] 0 (.b (.l [] [0,3,4] 0 .o)) (.k [] [0,3,4] 0 (.b (.l [] [0,3,4] 0 .o)) (.k [] [3] 0 (.b (.l [] [0,3,4] 0 (.s .o (.b (.s .o (.k [] [0,3,4] 0 .o .o)))))) .o))))))
abbrev A2year_R := Option (Int × Unit)
noncomputable abbrev A2year_c0 : Code := (cl (cl (cl (cr (cr (cr (bodyOf Tryz.f67)))))))
noncomputable abbrev A2year_c1 : Code := (cl (cl (cl (cr (cr (cr (cr (bodyOf Tryz.f67))))))))
noncomputable abbrev A2year_c2 : Code := (cr (cr (cl (cr (cl (cl (cl (cr (cr (cr (cr (cr (bodyOf Tryz.f67)))))))))))))
noncomputable abbrev A2year_c3 : Code := (cl (cl (cl (cr (cr (cr (cr (cr (bodyOf Tryz.f67)))))))))
noncomputable abbrev A2year_c4 : Code := (cr (cr (cr (cr (cr (cr (bodyOf Tryz.f67)))))))
noncomputable abbrev A2year_c5 : Code := (cr (cr (cr (cr (cr (bodyOf Tryz.f67))))))
noncomputable abbrev A2year_c6 : Code := (cr (cr (cr (cr (bodyOf Tryz.f67)))))
noncomputable abbrev A2year_c7 : Code := (cr (cr (cr (bodyOf Tryz.f67))))
noncomputable abbrev A2year_a0 : An := A2year_an.right.right.right.left.left.left
noncomputable abbrev A2year_a1 : An := A2year_an.right.right.right
noncomputable abbrev A2year_a2 : An := A2year_an.right.right.right.left.left
noncomputable abbrev A2year_a3 : An := A2year_an.right.right.right.right.left.left.left
noncomputable abbrev A2year_a4 : An := A2year_an.right.right.right.right
noncomputable abbrev A2year_a5 : An := A2year_an.right.right.right.right.left.left
noncomputable abbrev A2year_a6 : An := A2year_an.right.right.right.right.right.left.left.left.right.left.right.right
noncomputable abbrev A2year_a7 : An := A2year_an.right.right.right.right.right
noncomputable abbrev A2year_a8 : An := A2year_an.right.right.right.right.right.left.left
noncomputable abbrev A2year_a9 : An := A2year_an.right.right.right.right.right.left.left.left
noncomputable abbrev A2year_a10 : An := A2year_an.right.right.right.right.right.right
noncomputable abbrev A2year_K0 (r2 k1 : St → A2year_R) : Ex → St → A2year_R := (kSeq r2 A2year_a2 (kBlk 0 (kSeq k1 A2year_a1 (kFin Tryz.prog A2year_rs Tryz.f67))))
noncomputable abbrev A2year_K1 (r4 k3 : St → A2year_R) : Ex → St → A2year_R := (kSeq r4 A2year_a5 (kBlk 2 (kSeq k3 A2year_a4 (kFin Tryz.prog A2year_rs Tryz.f67))))
noncomputable abbrev A2year_K2 (r6 k5 : St → A2year_R) : Ex → St → A2year_R := (kBlk 5 (kSeq r6 A2year_a8 (kBlk 4 (kSeq k5 A2year_a7 (kFin Tryz.prog A2year_rs Tryz.f67)))))
noncomputable abbrev A2year_K3 (r6 k5 : St → A2year_R) : Ex → St → A2year_R := (kSeq r6 A2year_a8 (kBlk 4 (kSeq k5 A2year_a7 (kFin Tryz.prog A2year_rs Tryz.f67))))
abbrev A2year_t0 := Int × Int × Int
def A2year_m0 (z : A2year_t0) : St := ⟨(.v ⟨(.int .i64), z.1⟩ :: .junk :: .junk :: .v ⟨(.int .i64), z.2.1⟩ :: .v ⟨(.int .i64), z.2.2⟩ :: jk 27 []), []⟩
abbrev A2year_t1 := Int × Int × Int
def A2year_m1 (z : A2year_t1) : St := ⟨(.v ⟨(.int .i64), z.1⟩ :: .junk :: .junk :: .v ⟨(.int .i64), z.2.1⟩ :: .v ⟨(.int .i64), z.2.2⟩ :: jk 27 []), []⟩
abbrev A2year_t2 := Int × Int × Int
def A2year_m2 (z : A2year_t2) : St := ⟨(.v ⟨(.int .i64), z.1⟩ :: .junk :: .junk :: .v ⟨(.int .i64), z.2.1⟩ :: .v ⟨(.int .i64), z.2.2⟩ :: jk 27 []), []⟩
abbrev A2year_t3 := Int × Int × Int
def A2year_m3 (z : A2year_t3) : St := ⟨(.v ⟨(.int .i64), z.1⟩ :: .junk :: .junk :: .v ⟨(.int .i64), z.2.1⟩ :: .v ⟨(.int .i64), z.2.2⟩ :: jk 27 []), []⟩
abbrev A2year_t4 := Int × Int × Int
def A2year_m4 (z : A2year_t4) : St := ⟨(.v ⟨(.int .i64), z.1⟩ :: .junk :: .junk :: .v ⟨(.int .i64), z.2.1⟩ :: .v ⟨(.int .i64), z.2.2⟩ :: jk 27 []), []⟩
abbrev A2year_t5 := Int
def A2year_m5 (z : A2year_t5) : St := ⟨(jk 3 (.v ⟨(.int .i64), z⟩ :: jk 28 [])), []⟩
abbrev A2year_t6 := Int × Int × Int
def A2year_m6 (z : A2year_t6) : St := ⟨(.v ⟨(.int .i64), z.1⟩ :: .junk :: .junk :: .v ⟨(.int .i64), z.2.1⟩ :: .v ⟨(.int .i64), z.2.2⟩ :: jk 27 []), []⟩
abbrev A2year_t7 := Int × Int × Int
def A2year_m7 (z : A2year_t7) : St := ⟨(.v ⟨(.int .i64), z.1⟩ :: .junk :: .junk :: .v ⟨(.int .i64), z.2.1⟩ :: .v ⟨(.int .i64), z.2.2⟩ :: jk 27 []), []⟩
def A2year_p2 (_n : Nat) (k1 : A2year_t1 → A2year_R) (r2 : A2year_t2 → A2year_R) (z : A2year_t2) : A2year_R :=
  bif (decide ((w64 (z.2.2 + 400)) ≤ z.1)) then
    r2 (z.1, (w64 (z.2.1 + 146097)), (w64 (z.2.2 + 400)))
  else
    k1 (z.1, z.2.1, z.2.2)
def A2year_s2 (n : Nat) (k1 : A2year_t1 → A2year_R) (r2 : A2year_t2 → A2year_R) (z : A2year_t2) : A2year_R := A2year_p2 n k1 r2 z
theorem A2year_e2 (n : Nat) (k1 : St → A2year_R) (r2 : St → A2year_R) (rc : RC A2year_R) (z : A2year_t2) : codeR rc Tryz.prog A2year_sp n A2year_c0 A2year_a0 (A2year_m2 z) (A2year_K0 r2 k1) = A2year_p2 n (fun y => k1 (A2year_m1 y)) (fun y => r2 (A2year_m2 y)) z := by kernel_rfl
theorem A2year_q2 (n : Nat) (k1 : St → A2year_R) (r2 : St → A2year_R) (z : A2year_t2) : codeK Tryz.prog A2year_sp n A2year_c0 A2year_a0 (A2year_m2 z) (A2year_K0 r2 k1) = A2year_s2 n (fun y => k1 (A2year_m1 y)) (fun y => r2 (A2year_m2 y)) z := by
  rw [codeK_R, A2year_e2]
  rfl
def A2year_p4 (_n : Nat) (k3 : A2year_t3 → A2year_R) (r4 : A2year_t4 → A2year_R) (z : A2year_t4) : A2year_R :=
  bif (decide (z.2.2 > z.1)) then
    r4 (z.1, (w64 (z.2.1 - 146097)), (w64 (z.2.2 - 400)))
  else
    k3 (z.1, z.2.1, z.2.2)
def A2year_s4 (n : Nat) (k3 : A2year_t3 → A2year_R) (r4 : A2year_t4 → A2year_R) (z : A2year_t4) : A2year_R := A2year_p4 n k3 r4 z
theorem A2year_e4 (n : Nat) (k3 : St → A2year_R) (r4 : St → A2year_R) (rc : RC A2year_R) (z : A2year_t4) : codeR rc Tryz.prog A2year_sp n A2year_c1 A2year_a3 (A2year_m4 z) (A2year_K1 r4 k3) = A2year_p4 n (fun y => k3 (A2year_m3 y)) (fun y => r4 (A2year_m4 y)) z := by kernel_rfl
theorem A2year_q4 (n : Nat) (k3 : St → A2year_R) (r4 : St → A2year_R) (z : A2year_t4) : codeK Tryz.prog A2year_sp n A2year_c1 A2year_a3 (A2year_m4 z) (A2year_K1 r4 k3) = A2year_s4 n (fun y => k3 (A2year_m3 y)) (fun y => r4 (A2year_m4 y)) z := by
  rw [codeK_R, A2year_e4]
  rfl
def A2year_p7 (_n : Nat) (_k5 : A2year_t5 → A2year_R) (r6 : A2year_t6 → A2year_R) (z : A2year_t7) : A2year_R :=
  r6 (z.1, z.2.1, (w64 (z.2.2 + 1)))
def A2year_s7 (n : Nat) (k5 : A2year_t5 → A2year_R) (r6 : A2year_t6 → A2year_R) (z : A2year_t7) : A2year_R := A2year_p7 n k5 r6 z
theorem A2year_e7 (n : Nat) (k5 : St → A2year_R) (r6 : St → A2year_R) (rc : RC A2year_R) (z : A2year_t7) : codeR rc Tryz.prog A2year_sp n A2year_c2 A2year_a6 (A2year_m7 z) (A2year_K2 r6 k5) = A2year_p7 n (fun y => k5 (A2year_m5 y)) (fun y => r6 (A2year_m6 y)) z := by kernel_rfl
theorem A2year_q7 (n : Nat) (k5 : St → A2year_R) (r6 : St → A2year_R) (z : A2year_t7) : codeK Tryz.prog A2year_sp n A2year_c2 A2year_a6 (A2year_m7 z) (A2year_K2 r6 k5) = A2year_s7 n (fun y => k5 (A2year_m5 y)) (fun y => r6 (A2year_m6 y)) z := by
  rw [codeK_R, A2year_e7]
  rfl
def A2year_p6 (n : Nat) (k5 : A2year_t5 → A2year_R) (_r6 : A2year_t6 → A2year_R) (k7 : A2year_t7 → A2year_R) (z : A2year_t6) : A2year_R :=
  bif (decide (z.2.2 < z.1)) then
    let t6 := w64 (z.2.1 + 365)
    ((A2Leap n (z.2.2, ()))).bind fun v7 =>
    bif v7.1 then
      k7 (z.1, (w64 (t6 + 1)), z.2.2)
    else
      k7 (z.1, t6, z.2.2)
  else
    k5 z.2.1
def A2year_s6 (n : Nat) (k5 : A2year_t5 → A2year_R) (r6 : A2year_t6 → A2year_R) (z : A2year_t6) : A2year_R := A2year_p6 n k5 r6 (A2year_s7 n k5 r6) z
theorem A2year_e6 (n : Nat) (k5 : St → A2year_R) (r6 : St → A2year_R) (rc : RC A2year_R) (z : A2year_t6) : codeR rc Tryz.prog A2year_sp n A2year_c3 A2year_a9 (A2year_m6 z) (A2year_K3 r6 k5) = A2year_p6 n (fun y => k5 (A2year_m5 y)) (fun y => r6 (A2year_m6 y)) (fun y => rc A2year_c2 A2year_a6 (A2year_m7 y) (A2year_K2 r6 k5)) z := by kernel_rfl
theorem A2year_q6 (n : Nat) (k5 : St → A2year_R) (r6 : St → A2year_R) (z : A2year_t6) : codeK Tryz.prog A2year_sp n A2year_c3 A2year_a9 (A2year_m6 z) (A2year_K3 r6 k5) = A2year_s6 n (fun y => k5 (A2year_m5 y)) (fun y => r6 (A2year_m6 y)) z := by
  have h7 : (fun y => codeK Tryz.prog A2year_sp n A2year_c2 A2year_a6 (A2year_m7 y) (A2year_K2 r6 k5)) = (A2year_s7 n (fun y => k5 (A2year_m5 y)) (fun y => r6 (A2year_m6 y))) := funext fun y => by
    have := A2year_q7 n k5 r6 y
    exact this
  rw [codeK_R, A2year_e6]
  rw [h7]
  rfl
def A2year_p5 (_n : Nat) (z : A2year_t5) : A2year_R :=
  some (z, ())
def A2year_s5 (n : Nat) (z : A2year_t5) : A2year_R := A2year_p5 n z
theorem A2year_e5 (n : Nat) (rc : RC A2year_R) (z : A2year_t5) : codeR rc Tryz.prog A2year_sp n A2year_c4 A2year_a10 (A2year_m5 z) (kFin Tryz.prog A2year_rs Tryz.f67) = A2year_p5 n z := by kernel_rfl
theorem A2year_q5 (n : Nat) (z : A2year_t5) : codeK Tryz.prog A2year_sp n A2year_c4 A2year_a10 (A2year_m5 z) (kFin Tryz.prog A2year_rs Tryz.f67) = A2year_s5 n z := by
  rw [codeK_R, A2year_e5]
  rfl
def A2year_s3 (n : Nat) (z : A2year_t3) : A2year_R :=
  rounds (fun r6 x' => A2year_s6 n (A2year_s5 n) r6 x') n (z.1, z.2.1, z.2.2)
theorem A2year_q3 (n : Nat) (z : A2year_t3) : codeK Tryz.prog A2year_sp n A2year_c5 A2year_a7 (A2year_m3 z) (kFin Tryz.prog A2year_rs Tryz.f67) = A2year_s3 n z :=
  Eq.trans (b := rounds (fun r6 st => codeK Tryz.prog A2year_sp n A2year_c3 A2year_a9 st (A2year_K3 r6 (fun st => codeK Tryz.prog A2year_sp n A2year_c4 A2year_a10 st (kFin Tryz.prog A2year_rs Tryz.f67)))) n (A2year_m6 (z.1, z.2.1, z.2.2))) (by kernel_rfl) (rounds_mk A2year_m6 (fun r6 x' => by
    have h5 : (fun y => codeK Tryz.prog A2year_sp n A2year_c4 A2year_a10 (A2year_m5 y) (kFin Tryz.prog A2year_rs Tryz.f67)) = (A2year_s5 n) := funext fun y => by
      have := A2year_q5 n  y
      exact this
    have := (A2year_q6 n (fun st => codeK Tryz.prog A2year_sp n A2year_c4 A2year_a10 st (kFin Tryz.prog A2year_rs Tryz.f67)) r6 x')
    rw [h5] at this
    exact this) n _)
def A2year_s1 (n : Nat) (z : A2year_t1) : A2year_R :=
  rounds (fun r4 x' => A2year_s4 n (A2year_s3 n) r4 x') n (z.1, z.2.1, z.2.2)
theorem A2year_q1 (n : Nat) (z : A2year_t1) : codeK Tryz.prog A2year_sp n A2year_c6 A2year_a4 (A2year_m1 z) (kFin Tryz.prog A2year_rs Tryz.f67) = A2year_s1 n z :=
  Eq.trans (b := rounds (fun r4 st => codeK Tryz.prog A2year_sp n A2year_c1 A2year_a3 st (A2year_K1 r4 (fun st => codeK Tryz.prog A2year_sp n A2year_c5 A2year_a7 st (kFin Tryz.prog A2year_rs Tryz.f67)))) n (A2year_m4 (z.1, z.2.1, z.2.2))) (by kernel_rfl) (rounds_mk A2year_m4 (fun r4 x' => by
    have h3 : (fun y => codeK Tryz.prog A2year_sp n A2year_c5 A2year_a7 (A2year_m3 y) (kFin Tryz.prog A2year_rs Tryz.f67)) = (A2year_s3 n) := funext fun y => by
      have := A2year_q3 n  y
      exact this
    have := (A2year_q4 n (fun st => codeK Tryz.prog A2year_sp n A2year_c5 A2year_a7 st (kFin Tryz.prog A2year_rs Tryz.f67)) r4 x')
    rw [h3] at this
    exact this) n _)
def A2year_s0 (n : Nat) (z : A2year_t0) : A2year_R :=
  rounds (fun r2 x' => A2year_s2 n (A2year_s1 n) r2 x') n (z.1, z.2.1, z.2.2)
theorem A2year_q0 (n : Nat) (z : A2year_t0) : codeK Tryz.prog A2year_sp n A2year_c7 A2year_a1 (A2year_m0 z) (kFin Tryz.prog A2year_rs Tryz.f67) = A2year_s0 n z :=
  Eq.trans (b := rounds (fun r2 st => codeK Tryz.prog A2year_sp n A2year_c0 A2year_a0 st (A2year_K0 r2 (fun st => codeK Tryz.prog A2year_sp n A2year_c6 A2year_a4 st (kFin Tryz.prog A2year_rs Tryz.f67)))) n (A2year_m2 (z.1, z.2.1, z.2.2))) (by kernel_rfl) (rounds_mk A2year_m2 (fun r2 x' => by
    have h1 : (fun y => codeK Tryz.prog A2year_sp n A2year_c6 A2year_a4 (A2year_m1 y) (kFin Tryz.prog A2year_rs Tryz.f67)) = (A2year_s1 n) := funext fun y => by
      have := A2year_q1 n  y
      exact this
    have := (A2year_q2 n (fun st => codeK Tryz.prog A2year_sp n A2year_c6 A2year_a4 st (kFin Tryz.prog A2year_rs Tryz.f67)) r2 x')
    rw [h1] at this
    exact this) n _)
def A2year_px (_n : Nat) (k0 : A2year_t0 → A2year_R) (x : (Int × Unit)) : A2year_R :=
  k0 (x.1, (0 : Int), (1970 : Int))
def A2year (n : Nat) (x : (Int × Unit)) : A2year_R := A2year_px n (A2year_s0 n) x
theorem A2year_ex (n : Nat) (rc : RC A2year_R) (x : (Int × Unit)) : codeR rc Tryz.prog A2year_sp n (bodyOf Tryz.f67) A2year_an (start A2year_ps x (Func.ntmps Tryz.f67)) (kFin Tryz.prog A2year_rs Tryz.f67) = A2year_px n (fun y => rc A2year_c7 A2year_a1 (A2year_m0 y) (kFin Tryz.prog A2year_rs Tryz.f67)) x := by kernel_rfl
theorem A2year_qx (n : Nat) (x : (Int × Unit)) : codeK Tryz.prog A2year_sp n (bodyOf Tryz.f67) A2year_an (start A2year_ps x (Func.ntmps Tryz.f67)) (kFin Tryz.prog A2year_rs Tryz.f67) = A2year n x := by
  have h0 : (fun y => codeK Tryz.prog A2year_sp n A2year_c7 A2year_a1 (A2year_m0 y) (kFin Tryz.prog A2year_rs Tryz.f67)) = (A2year_s0 n) := funext fun y => by
    have := A2year_q0 n  y
    exact this
  rw [codeK_R, A2year_ex]
  rw [h0]
  rfl
def A2year_spec : Sp := ⟨A2year_ps, A2year_rs, A2year⟩
theorem A2year_ok : SoundX Tryz.prog CX 67 (.f A2year_spec) := sound_of (look_cons A2Leap_ok look_nil) Tryz.func67 (by kernel_rfl) rfl A2year_an A2year_spec rfl rfl A2year_qx

/-! ### noonmark/noonmarkref04.Long -/
abbrev A2Long_ps : Ty := T_api_At
abbrev A2Long_rs : Ty := (.pair (.int .i64) .unit)
def A2Long_sp : Specs := look [(95, .f A2Leap_spec)]
def A2Long_an : An := (.s .o (.k [] [] 0 (.s .o (.b (.k [] [0,5,6] 0 .o (.c .o (.s .o (.c .o (.k [] [15] 0 .o .o))))))) .o))
abbrev A2Long_R := Option (Int × Unit)
noncomputable abbrev A2Long_c0 : Code := (cr (cr (bodyOf Tryz.f68)))
noncomputable abbrev A2Long_c1 : Code := (cr (cr (cr (cr (cr (cl (cr (cl (cr (bodyOf Tryz.f68))))))))))
noncomputable abbrev A2Long_c2 : Code := (cr (cl (cr (cl (cr (bodyOf Tryz.f68))))))
noncomputable abbrev A2Long_a0 : An := A2Long_an.right.right
noncomputable abbrev A2Long_a1 : An := A2Long_an.right.left.right.left.right.right.right.right.right
noncomputable abbrev A2Long_a2 : An := A2Long_an.right.left.right.left.right
noncomputable abbrev A2Long_K0 (k0 : St → A2Long_R) : Ex → St → A2Long_R := (kBlk 0 (kSeq k0 A2Long_an.right (kFin Tryz.prog A2Long_rs Tryz.f68)))
noncomputable abbrev A2Long_K1 (k0 : St → A2Long_R) : Ex → St → A2Long_R := (kBlk 0 (kSeq k0 A2Long_an.right (kFin Tryz.prog A2Long_rs Tryz.f68)))
abbrev A2Long_t0 := Unit
def A2Long_m0 (_z : A2Long_t0) : St := ⟨(jk 23 []), []⟩
abbrev A2Long_t1 := Int × Int × Bool
def A2Long_m1 (z : A2Long_t1) : St := ⟨(.v ⟨(.int .i64), z.1⟩ :: jk 4 (.v ⟨(.int .i64), z.2.1⟩ :: .v ⟨.bool, z.2.2⟩ :: jk 16 [])), []⟩
abbrev A2Long_t2 := Bool
def A2Long_m2 (z : A2Long_t2) : St := ⟨(jk 15 (.v ⟨.bool, z⟩ :: jk 7 [])), []⟩
def A2Long_p0 (_n : Nat) (_z : A2Long_t0) : A2Long_R :=
  some ((0 : Int), ())
def A2Long_s0 (n : Nat) (z : A2Long_t0) : A2Long_R := A2Long_p0 n z
theorem A2Long_e0 (n : Nat) (rc : RC A2Long_R) (z : A2Long_t0) : codeR rc Tryz.prog A2Long_sp n A2Long_c0 A2Long_a0 (A2Long_m0 z) (kFin Tryz.prog A2Long_rs Tryz.f68) = A2Long_p0 n z := by kernel_rfl
theorem A2Long_q0 (n : Nat) (z : A2Long_t0) : codeK Tryz.prog A2Long_sp n A2Long_c0 A2Long_a0 (A2Long_m0 z) (kFin Tryz.prog A2Long_rs Tryz.f68) = A2Long_s0 n z := by
  rw [codeK_R, A2Long_e0]
  rfl
def A2Long_p2 (_n : Nat) (k0 : A2Long_t0 → A2Long_R) (z : A2Long_t2) : A2Long_R :=
  bif z then
    some ((31 : Int), ())
  else
    k0 ()
def A2Long_s2 (n : Nat) (k0 : A2Long_t0 → A2Long_R) (z : A2Long_t2) : A2Long_R := A2Long_p2 n k0 z
theorem A2Long_e2 (n : Nat) (k0 : St → A2Long_R) (rc : RC A2Long_R) (z : A2Long_t2) : codeR rc Tryz.prog A2Long_sp n A2Long_c1 A2Long_a1 (A2Long_m2 z) (A2Long_K0 k0) = A2Long_p2 n (fun y => k0 (A2Long_m0 y)) z := by kernel_rfl
theorem A2Long_q2 (n : Nat) (k0 : St → A2Long_R) (z : A2Long_t2) : codeK Tryz.prog A2Long_sp n A2Long_c1 A2Long_a1 (A2Long_m2 z) (A2Long_K0 k0) = A2Long_s2 n (fun y => k0 (A2Long_m0 y)) z := by
  rw [codeK_R, A2Long_e2]
  rfl
def A2Long_p1 (n : Nat) (_k0 : A2Long_t0 → A2Long_R) (k2 : A2Long_t2 → A2Long_R) (z : A2Long_t1) : A2Long_R :=
  bif z.2.2 then
    some ((30 : Int), ())
  else
    bif (z.2.1 == 2) then
      ((A2Leap n (z.1, ()))).bind fun v1 =>
      bif v1.1 then
        some ((29 : Int), ())
      else
        some ((28 : Int), ())
    else
      bif (z.2.1 == 1) then
        k2 true
      else
        bif (z.2.1 == 3) then
          k2 true
        else
          bif (z.2.1 == 5) then
            k2 true
          else
            bif (z.2.1 == 7) then
              k2 true
            else
              bif (z.2.1 == 8) then
                k2 true
              else
                bif (z.2.1 == 10) then
                  k2 true
                else
                  k2 (z.2.1 == 12)
def A2Long_s1 (n : Nat) (k0 : A2Long_t0 → A2Long_R) (z : A2Long_t1) : A2Long_R := A2Long_p1 n k0 (A2Long_s2 n k0) z
theorem A2Long_e1 (n : Nat) (k0 : St → A2Long_R) (rc : RC A2Long_R) (z : A2Long_t1) : codeR rc Tryz.prog A2Long_sp n A2Long_c2 A2Long_a2 (A2Long_m1 z) (A2Long_K1 k0) = A2Long_p1 n (fun y => k0 (A2Long_m0 y)) (fun y => rc A2Long_c1 A2Long_a1 (A2Long_m2 y) (A2Long_K0 k0)) z := by kernel_rfl
theorem A2Long_q1 (n : Nat) (k0 : St → A2Long_R) (z : A2Long_t1) : codeK Tryz.prog A2Long_sp n A2Long_c2 A2Long_a2 (A2Long_m1 z) (A2Long_K1 k0) = A2Long_s1 n (fun y => k0 (A2Long_m0 y)) z := by
  have h2 : (fun y => codeK Tryz.prog A2Long_sp n A2Long_c1 A2Long_a1 (A2Long_m2 y) (A2Long_K0 k0)) = (A2Long_s2 n (fun y => k0 (A2Long_m0 y))) := funext fun y => by
    have := A2Long_q2 n k0 y
    exact this
  rw [codeK_R, A2Long_e1]
  rw [h2]
  rfl
def A2Long_px (_n : Nat) (k0 : A2Long_t0 → A2Long_R) (k1 : A2Long_t1 → A2Long_R) (x : D_api_At) : A2Long_R :=
  bif (x.2.1 == 4) then
    k1 (x.1, x.2.1, true)
  else
    bif (x.2.1 == 6) then
      k1 (x.1, x.2.1, true)
    else
      bif (x.2.1 == 9) then
        k1 (x.1, x.2.1, true)
      else
        k1 (x.1, x.2.1, (x.2.1 == 11))
def A2Long (n : Nat) (x : D_api_At) : A2Long_R := A2Long_px n (A2Long_s0 n) (A2Long_s1 n (A2Long_s0 n)) x
theorem A2Long_ex (n : Nat) (rc : RC A2Long_R) (x : D_api_At) : codeR rc Tryz.prog A2Long_sp n (bodyOf Tryz.f68) A2Long_an (start A2Long_ps x (Func.ntmps Tryz.f68)) (kFin Tryz.prog A2Long_rs Tryz.f68) = A2Long_px n (fun y => rc A2Long_c0 A2Long_a0 (A2Long_m0 y) (kFin Tryz.prog A2Long_rs Tryz.f68)) (fun y => rc A2Long_c2 A2Long_a2 (A2Long_m1 y) (A2Long_K1 (fun st => rc A2Long_c0 A2Long_a0 st (kFin Tryz.prog A2Long_rs Tryz.f68)))) x := by kernel_rfl
theorem A2Long_qx (n : Nat) (x : D_api_At) : codeK Tryz.prog A2Long_sp n (bodyOf Tryz.f68) A2Long_an (start A2Long_ps x (Func.ntmps Tryz.f68)) (kFin Tryz.prog A2Long_rs Tryz.f68) = A2Long n x := by
  have h0 : (fun y => codeK Tryz.prog A2Long_sp n A2Long_c0 A2Long_a0 (A2Long_m0 y) (kFin Tryz.prog A2Long_rs Tryz.f68)) = (A2Long_s0 n) := funext fun y => by
    have := A2Long_q0 n  y
    exact this
  have h1 : (fun y => codeK Tryz.prog A2Long_sp n A2Long_c2 A2Long_a2 (A2Long_m1 y) (A2Long_K1 (fun st => codeK Tryz.prog A2Long_sp n A2Long_c0 A2Long_a0 st (kFin Tryz.prog A2Long_rs Tryz.f68)))) = (A2Long_s1 n (A2Long_s0 n)) := funext fun y => by
    have := A2Long_q1 n (fun st => codeK Tryz.prog A2Long_sp n A2Long_c0 A2Long_a0 st (kFin Tryz.prog A2Long_rs Tryz.f68)) y
    rw [h0] at this; exact this
  rw [codeK_R, A2Long_ex]
  rw [h0]
  rw [h1]
  rfl
def A2Long_spec : Sp := ⟨A2Long_ps, A2Long_rs, A2Long⟩
theorem A2Long_ok : SoundX Tryz.prog CX 68 (.f A2Long_spec) := sound_of (look_cons A2Leap_ok look_nil) Tryz.func68 (by kernel_rfl) rfl A2Long_an A2Long_spec rfl rfl A2Long_qx

/-! ### noonmark/noonmarkref14.Span -/
abbrev A4Span_ps : Ty := (.pair (.list T_api_Rule) .unit)
abbrev A4Span_rs : Ty := (.pair (.int .i64) (.pair (.int .i64) (.pair .bool .unit)))
def A4Span_sp : Specs := look []
def A4Span_an : An := (.s .o (.s .o (.s .o (.k [] [5,6,7] 0 (.k [] [0,5,6,7,8] 0 .o (.b (.l [] [0,5,6,7,8] 0 (.s .o (.k [] [0,5,6,7,8] 0 .o .o))))) .o))))
abbrev A4Span_R := Option (Int × (Int × (Bool × Unit)))
noncomputable abbrev A4Span_c0 : Code := (cr (cr (cr (cr (bodyOf Tryz.f69)))))
noncomputable abbrev A4Span_c1 : Code := (cr (cr (cl (cl (cr (cl (cr (cr (cr (bodyOf Tryz.f69))))))))))
noncomputable abbrev A4Span_c2 : Code := (cl (cl (cr (cl (cr (cr (cr (bodyOf Tryz.f69))))))))
noncomputable abbrev A4Span_c3 : Code := (cr (cl (cr (cr (cr (bodyOf Tryz.f69))))))
noncomputable abbrev A4Span_a0 : An := A4Span_an.right.right.right.right
noncomputable abbrev A4Span_a1 : An := A4Span_an.right.right.right.left.right.left.left.right.right
noncomputable abbrev A4Span_a2 : An := A4Span_an.right.right.right
noncomputable abbrev A4Span_a3 : An := A4Span_an.right.right.right.left.right.left
noncomputable abbrev A4Span_a4 : An := A4Span_an.right.right.right.left.right.left.left
noncomputable abbrev A4Span_a5 : An := A4Span_an.right.right.right.left.right
noncomputable abbrev A4Span_K0 (r2 k0 : St → A4Span_R) : Ex → St → A4Span_R := (kSeq r2 A4Span_a3 (kBlk 0 (kSeq k0 A4Span_a2 (kFin Tryz.prog A4Span_rs Tryz.f69))))
noncomputable abbrev A4Span_K1 (r2 k0 : St → A4Span_R) : Ex → St → A4Span_R := (kSeq r2 A4Span_a3 (kBlk 0 (kSeq k0 A4Span_a2 (kFin Tryz.prog A4Span_rs Tryz.f69))))
noncomputable abbrev A4Span_K2 (k0 : St → A4Span_R) : Ex → St → A4Span_R := (kSeq k0 A4Span_a2 (kFin Tryz.prog A4Span_rs Tryz.f69))
abbrev A4Span_t0 := Int × Int × Bool
def A4Span_m0 (z : A4Span_t0) : St := ⟨(jk 5 (.v ⟨(.int .i64), z.1⟩ :: .v ⟨(.int .i64), z.2.1⟩ :: .v ⟨.bool, z.2.2⟩ :: jk 48 [])), []⟩
abbrev A4Span_t1 := (List D_api_Rule) × Int × Int × Bool × Int
def A4Span_m1 (z : A4Span_t1) : St := ⟨(.v ⟨(.list T_api_Rule), z.1⟩ :: jk 4 (.v ⟨(.int .i64), z.2.1⟩ :: .v ⟨(.int .i64), z.2.2.1⟩ :: .v ⟨.bool, z.2.2.2.1⟩ :: .v ⟨(.int .i64), z.2.2.2.2⟩ :: jk 47 [])), []⟩
abbrev A4Span_t2 := (List D_api_Rule) × Int × Int × Bool × Int
def A4Span_m2 (z : A4Span_t2) : St := ⟨(.v ⟨(.list T_api_Rule), z.1⟩ :: jk 4 (.v ⟨(.int .i64), z.2.1⟩ :: .v ⟨(.int .i64), z.2.2.1⟩ :: .v ⟨.bool, z.2.2.2.1⟩ :: .v ⟨(.int .i64), z.2.2.2.2⟩ :: jk 47 [])), []⟩
abbrev A4Span_t3 := (List D_api_Rule) × Int × Int × Bool × Int
def A4Span_m3 (z : A4Span_t3) : St := ⟨(.v ⟨(.list T_api_Rule), z.1⟩ :: jk 4 (.v ⟨(.int .i64), z.2.1⟩ :: .v ⟨(.int .i64), z.2.2.1⟩ :: .v ⟨.bool, z.2.2.2.1⟩ :: .v ⟨(.int .i64), z.2.2.2.2⟩ :: jk 47 [])), []⟩
def A4Span_p0 (_n : Nat) (z : A4Span_t0) : A4Span_R :=
  some (z.1, (z.2.1, (z.2.2, ())))
def A4Span_s0 (n : Nat) (z : A4Span_t0) : A4Span_R := A4Span_p0 n z
theorem A4Span_e0 (n : Nat) (rc : RC A4Span_R) (z : A4Span_t0) : codeR rc Tryz.prog A4Span_sp n A4Span_c0 A4Span_a0 (A4Span_m0 z) (kFin Tryz.prog A4Span_rs Tryz.f69) = A4Span_p0 n z := by kernel_rfl
theorem A4Span_q0 (n : Nat) (z : A4Span_t0) : codeK Tryz.prog A4Span_sp n A4Span_c0 A4Span_a0 (A4Span_m0 z) (kFin Tryz.prog A4Span_rs Tryz.f69) = A4Span_s0 n z := by
  rw [codeK_R, A4Span_e0]
  rfl
def A4Span_p3 (_n : Nat) (_k0 : A4Span_t0 → A4Span_R) (r2 : A4Span_t2 → A4Span_R) (z : A4Span_t3) : A4Span_R :=
  r2 (z.1, z.2.1, z.2.2.1, z.2.2.2.1, (w64 (z.2.2.2.2 + 1)))
def A4Span_s3 (n : Nat) (k0 : A4Span_t0 → A4Span_R) (r2 : A4Span_t2 → A4Span_R) (z : A4Span_t3) : A4Span_R := A4Span_p3 n k0 r2 z
theorem A4Span_e3 (n : Nat) (k0 : St → A4Span_R) (r2 : St → A4Span_R) (rc : RC A4Span_R) (z : A4Span_t3) : codeR rc Tryz.prog A4Span_sp n A4Span_c1 A4Span_a1 (A4Span_m3 z) (A4Span_K0 r2 k0) = A4Span_p3 n (fun y => k0 (A4Span_m0 y)) (fun y => r2 (A4Span_m2 y)) z := by kernel_rfl
theorem A4Span_q3 (n : Nat) (k0 : St → A4Span_R) (r2 : St → A4Span_R) (z : A4Span_t3) : codeK Tryz.prog A4Span_sp n A4Span_c1 A4Span_a1 (A4Span_m3 z) (A4Span_K0 r2 k0) = A4Span_s3 n (fun y => k0 (A4Span_m0 y)) (fun y => r2 (A4Span_m2 y)) z := by
  rw [codeK_R, A4Span_e3]
  rfl
def A4Span_p2 (_n : Nat) (k0 : A4Span_t0 → A4Span_R) (_r2 : A4Span_t2 → A4Span_R) (k3 : A4Span_t3 → A4Span_R) (z : A4Span_t2) : A4Span_R :=
  bif (decide (z.2.2.2.2 < (List.length z.1 : Int))) then
    bif decide (0 ≤ z.2.2.2.2) then
      ((z.1[Int.toNat z.2.2.2.2]?)).bind fun e3 =>
      let t4 := imin z.2.1 e3.2.1
      bif decide (0 ≤ z.2.2.2.2) then
        ((z.1[Int.toNat z.2.2.2.2]?)).bind fun e5 =>
        bif (e5.2.2.1 == 10000) then
          bif decide (0 ≤ z.2.2.2.2) then
            ((z.1[Int.toNat z.2.2.2.2]?)).bind fun e6 =>
            k3 (z.1, t4, (imax z.2.2.1 e6.2.1), true, z.2.2.2.2)
          else none
        else
          bif decide (0 ≤ z.2.2.2.2) then
            ((z.1[Int.toNat z.2.2.2.2]?)).bind fun e8 =>
            k3 (z.1, t4, (imax z.2.2.1 e8.2.2.1), z.2.2.2.1, z.2.2.2.2)
          else none
      else none
    else none
  else
    k0 (z.2.1, z.2.2.1, z.2.2.2.1)
def A4Span_s2 (n : Nat) (k0 : A4Span_t0 → A4Span_R) (r2 : A4Span_t2 → A4Span_R) (z : A4Span_t2) : A4Span_R := A4Span_p2 n k0 r2 (A4Span_s3 n k0 r2) z
theorem A4Span_e2 (n : Nat) (k0 : St → A4Span_R) (r2 : St → A4Span_R) (rc : RC A4Span_R) (z : A4Span_t2) : codeR rc Tryz.prog A4Span_sp n A4Span_c2 A4Span_a4 (A4Span_m2 z) (A4Span_K1 r2 k0) = A4Span_p2 n (fun y => k0 (A4Span_m0 y)) (fun y => r2 (A4Span_m2 y)) (fun y => rc A4Span_c1 A4Span_a1 (A4Span_m3 y) (A4Span_K0 r2 k0)) z := by kernel_rfl
theorem A4Span_q2 (n : Nat) (k0 : St → A4Span_R) (r2 : St → A4Span_R) (z : A4Span_t2) : codeK Tryz.prog A4Span_sp n A4Span_c2 A4Span_a4 (A4Span_m2 z) (A4Span_K1 r2 k0) = A4Span_s2 n (fun y => k0 (A4Span_m0 y)) (fun y => r2 (A4Span_m2 y)) z := by
  have h3 : (fun y => codeK Tryz.prog A4Span_sp n A4Span_c1 A4Span_a1 (A4Span_m3 y) (A4Span_K0 r2 k0)) = (A4Span_s3 n (fun y => k0 (A4Span_m0 y)) (fun y => r2 (A4Span_m2 y))) := funext fun y => by
    have := A4Span_q3 n k0 r2 y
    exact this
  rw [codeK_R, A4Span_e2]
  rw [h3]
  rfl
def A4Span_s1 (n : Nat) (k0 : A4Span_t0 → A4Span_R) (z : A4Span_t1) : A4Span_R :=
  rounds (fun r2 x' => A4Span_s2 n k0 r2 x') n (z.1, z.2.1, z.2.2.1, z.2.2.2.1, z.2.2.2.2)
theorem A4Span_q1 (n : Nat) (k0 : St → A4Span_R) (z : A4Span_t1) : codeK Tryz.prog A4Span_sp n A4Span_c3 A4Span_a5 (A4Span_m1 z) (A4Span_K2 k0) = A4Span_s1 n (fun y => k0 (A4Span_m0 y)) z :=
  Eq.trans (b := rounds (fun r2 st => codeK Tryz.prog A4Span_sp n A4Span_c2 A4Span_a4 st (A4Span_K1 r2 k0)) n (A4Span_m2 (z.1, z.2.1, z.2.2.1, z.2.2.2.1, z.2.2.2.2))) (by kernel_rfl) (rounds_mk A4Span_m2 (fun r2 x' => by
    have := (A4Span_q2 n k0 r2 x')
    exact this) n _)
def A4Span_px (_n : Nat) (k0 : A4Span_t0 → A4Span_R) (k1 : A4Span_t1 → A4Span_R) (x : ((List D_api_Rule) × Unit)) : A4Span_R :=
  bif ((List.length x.1 : Int) == 0) then
    some ((0 : Int), ((0 : Int), (false, ())))
  else
    ((x.1[Int.toNat (0 : Int)]?)).bind fun e1 =>
    ((x.1[Int.toNat (0 : Int)]?)).bind fun e2 =>
    k1 (x.1, e1.2.1, e2.2.1, false, (0 : Int))
def A4Span (n : Nat) (x : ((List D_api_Rule) × Unit)) : A4Span_R := A4Span_px n (A4Span_s0 n) (A4Span_s1 n (A4Span_s0 n)) x
theorem A4Span_ex (n : Nat) (rc : RC A4Span_R) (x : ((List D_api_Rule) × Unit)) : codeR rc Tryz.prog A4Span_sp n (bodyOf Tryz.f69) A4Span_an (start A4Span_ps x (Func.ntmps Tryz.f69)) (kFin Tryz.prog A4Span_rs Tryz.f69) = A4Span_px n (fun y => rc A4Span_c0 A4Span_a0 (A4Span_m0 y) (kFin Tryz.prog A4Span_rs Tryz.f69)) (fun y => rc A4Span_c3 A4Span_a5 (A4Span_m1 y) (A4Span_K2 (fun st => rc A4Span_c0 A4Span_a0 st (kFin Tryz.prog A4Span_rs Tryz.f69)))) x := by kernel_rfl
theorem A4Span_qx (n : Nat) (x : ((List D_api_Rule) × Unit)) : codeK Tryz.prog A4Span_sp n (bodyOf Tryz.f69) A4Span_an (start A4Span_ps x (Func.ntmps Tryz.f69)) (kFin Tryz.prog A4Span_rs Tryz.f69) = A4Span n x := by
  have h0 : (fun y => codeK Tryz.prog A4Span_sp n A4Span_c0 A4Span_a0 (A4Span_m0 y) (kFin Tryz.prog A4Span_rs Tryz.f69)) = (A4Span_s0 n) := funext fun y => by
    have := A4Span_q0 n  y
    exact this
  have h1 : (fun y => codeK Tryz.prog A4Span_sp n A4Span_c3 A4Span_a5 (A4Span_m1 y) (A4Span_K2 (fun st => codeK Tryz.prog A4Span_sp n A4Span_c0 A4Span_a0 st (kFin Tryz.prog A4Span_rs Tryz.f69)))) = (A4Span_s1 n (A4Span_s0 n)) := funext fun y => by
    have := A4Span_q1 n (fun st => codeK Tryz.prog A4Span_sp n A4Span_c0 A4Span_a0 st (kFin Tryz.prog A4Span_rs Tryz.f69)) y
    rw [h0] at this; exact this
  rw [codeK_R, A4Span_ex]
  rw [h0]
  rw [h1]
  rfl
def A4Span_spec : Sp := ⟨A4Span_ps, A4Span_rs, A4Span⟩
theorem A4Span_ok : SoundX Tryz.prog CX 69 (.f A4Span_spec) := sound_of look_nil Tryz.func69 (by kernel_rfl) rfl A4Span_an A4Span_spec rfl rfl A4Span_qx

/-! ### noonmark/noonmarkref06.Right -/
abbrev A3Right_ps : Ty := (.pair T_api_Day .unit)
abbrev A3Right_rs : Ty := (.pair .bool .unit)
def A3Right_sp : Specs := look []
def A3Right_an : An := (.s .o (.s .o (.s .o (.k [] [] 0 (.s .o (.b (.s .o (.c .o (.s .o (.c .o (.k [] [3,4,39] 0 .o .o))))))) .o))))
abbrev A3Right_R := Option (Bool × Unit)
noncomputable abbrev A3Right_c0 : Code := (cr (cr (cr (cr (bodyOf Tryz.f91)))))
noncomputable abbrev A3Right_c1 : Code := (cr (cr (cr (cr (cr (cl (cr (cl (cr (cr (cr (bodyOf Tryz.f91))))))))))))
noncomputable abbrev A3Right_a0 : An := A3Right_an.right.right.right.right
noncomputable abbrev A3Right_a1 : An := A3Right_an.right.right.right.left.right.left.right.right.right.right.right
noncomputable abbrev A3Right_a2 : An := A3Right_an.right.right.right
noncomputable abbrev A3Right_K0 (k0 : St → A3Right_R) : Ex → St → A3Right_R := (kBlk 0 (kSeq k0 A3Right_a2 (kFin Tryz.prog A3Right_rs Tryz.f91)))
abbrev A3Right_t0 := Unit
def A3Right_m0 (_z : A3Right_t0) : St := ⟨(jk 46 []), []⟩
abbrev A3Right_t1 := Bool × Bool × Bool
def A3Right_m1 (z : A3Right_t1) : St := ⟨(jk 3 (.v ⟨.bool, z.1⟩ :: .v ⟨.bool, z.2.1⟩ :: jk 34 (.v ⟨.bool, z.2.2⟩ :: jk 6 []))), []⟩
def A3Right_p0 (_n : Nat) (_z : A3Right_t0) : A3Right_R :=
  some (false, ())
def A3Right_s0 (n : Nat) (z : A3Right_t0) : A3Right_R := A3Right_p0 n z
theorem A3Right_e0 (n : Nat) (rc : RC A3Right_R) (z : A3Right_t0) : codeR rc Tryz.prog A3Right_sp n A3Right_c0 A3Right_a0 (A3Right_m0 z) (kFin Tryz.prog A3Right_rs Tryz.f91) = A3Right_p0 n z := by kernel_rfl
theorem A3Right_q0 (n : Nat) (z : A3Right_t0) : codeK Tryz.prog A3Right_sp n A3Right_c0 A3Right_a0 (A3Right_m0 z) (kFin Tryz.prog A3Right_rs Tryz.f91) = A3Right_s0 n z := by
  rw [codeK_R, A3Right_e0]
  rfl
def A3Right_p1 (_n : Nat) (k0 : A3Right_t0 → A3Right_R) (z : A3Right_t1) : A3Right_R :=
  bif z.2.2 then
    bif z.1 then
      some (z.2.1, ())
    else
      some (false, ())
  else
    k0 ()
def A3Right_s1 (n : Nat) (k0 : A3Right_t0 → A3Right_R) (z : A3Right_t1) : A3Right_R := A3Right_p1 n k0 z
theorem A3Right_e1 (n : Nat) (k0 : St → A3Right_R) (rc : RC A3Right_R) (z : A3Right_t1) : codeR rc Tryz.prog A3Right_sp n A3Right_c1 A3Right_a1 (A3Right_m1 z) (A3Right_K0 k0) = A3Right_p1 n (fun y => k0 (A3Right_m0 y)) z := by kernel_rfl
theorem A3Right_q1 (n : Nat) (k0 : St → A3Right_R) (z : A3Right_t1) : codeK Tryz.prog A3Right_sp n A3Right_c1 A3Right_a1 (A3Right_m1 z) (A3Right_K0 k0) = A3Right_s1 n (fun y => k0 (A3Right_m0 y)) z := by
  rw [codeK_R, A3Right_e1]
  rfl
def A3Right_px (_n : Nat) (k0 : A3Right_t0 → A3Right_R) (k1 : A3Right_t1 → A3Right_R) (x : (D_api_Day × Unit)) : A3Right_R :=
  bif (decide (x.1.2.1 ≥ 1)) then
    bif (decide (x.1.2.2.1 ≥ 0)) then
      bif (x.1.1 == 0) then
        bif (decide (x.1.2.1 ≤ 31)) then
          some ((x.1.2.2.1 == 0), ())
        else
          some (false, ())
      else
        bif (x.1.1 == 1) then
          bif (decide (x.1.2.2.1 ≤ 6)) then
            some ((x.1.2.1 == 0), ())
          else
            some (false, ())
        else
          bif (x.1.1 == 2) then
            k1 ((decide (x.1.2.1 ≤ 31)), (decide (x.1.2.2.1 ≤ 6)), true)
          else
            k1 ((decide (x.1.2.1 ≤ 31)), (decide (x.1.2.2.1 ≤ 6)), (x.1.1 == 3))
    else
      bif (x.1.1 == 0) then
        bif (decide (x.1.2.1 ≤ 31)) then
          some ((x.1.2.2.1 == 0), ())
        else
          some (false, ())
      else
        bif (x.1.1 == 1) then
          some (false, ())
        else
          bif (x.1.1 == 2) then
            k1 ((decide (x.1.2.1 ≤ 31)), false, true)
          else
            k1 ((decide (x.1.2.1 ≤ 31)), false, (x.1.1 == 3))
  else
    bif (decide (x.1.2.2.1 ≥ 0)) then
      bif (x.1.1 == 0) then
        some (false, ())
      else
        bif (x.1.1 == 1) then
          bif (decide (x.1.2.2.1 ≤ 6)) then
            some ((x.1.2.1 == 0), ())
          else
            some (false, ())
        else
          bif (x.1.1 == 2) then
            k1 (false, (decide (x.1.2.2.1 ≤ 6)), true)
          else
            k1 (false, (decide (x.1.2.2.1 ≤ 6)), (x.1.1 == 3))
    else
      bif (x.1.1 == 0) then
        some (false, ())
      else
        bif (x.1.1 == 1) then
          some (false, ())
        else
          bif (x.1.1 == 2) then
            k1 (false, false, true)
          else
            k1 (false, false, (x.1.1 == 3))
def A3Right (n : Nat) (x : (D_api_Day × Unit)) : A3Right_R := A3Right_px n (A3Right_s0 n) (A3Right_s1 n (A3Right_s0 n)) x
theorem A3Right_ex (n : Nat) (rc : RC A3Right_R) (x : (D_api_Day × Unit)) : codeR rc Tryz.prog A3Right_sp n (bodyOf Tryz.f91) A3Right_an (start A3Right_ps x (Func.ntmps Tryz.f91)) (kFin Tryz.prog A3Right_rs Tryz.f91) = A3Right_px n (fun y => rc A3Right_c0 A3Right_a0 (A3Right_m0 y) (kFin Tryz.prog A3Right_rs Tryz.f91)) (fun y => rc A3Right_c1 A3Right_a1 (A3Right_m1 y) (A3Right_K0 (fun st => rc A3Right_c0 A3Right_a0 st (kFin Tryz.prog A3Right_rs Tryz.f91)))) x := by kernel_rfl
theorem A3Right_qx (n : Nat) (x : (D_api_Day × Unit)) : codeK Tryz.prog A3Right_sp n (bodyOf Tryz.f91) A3Right_an (start A3Right_ps x (Func.ntmps Tryz.f91)) (kFin Tryz.prog A3Right_rs Tryz.f91) = A3Right n x := by
  have h0 : (fun y => codeK Tryz.prog A3Right_sp n A3Right_c0 A3Right_a0 (A3Right_m0 y) (kFin Tryz.prog A3Right_rs Tryz.f91)) = (A3Right_s0 n) := funext fun y => by
    have := A3Right_q0 n  y
    exact this
  have h1 : (fun y => codeK Tryz.prog A3Right_sp n A3Right_c1 A3Right_a1 (A3Right_m1 y) (A3Right_K0 (fun st => codeK Tryz.prog A3Right_sp n A3Right_c0 A3Right_a0 st (kFin Tryz.prog A3Right_rs Tryz.f91)))) = (A3Right_s1 n (A3Right_s0 n)) := funext fun y => by
    have := A3Right_q1 n (fun st => codeK Tryz.prog A3Right_sp n A3Right_c0 A3Right_a0 st (kFin Tryz.prog A3Right_rs Tryz.f91)) y
    rw [h0] at this; exact this
  rw [codeK_R, A3Right_ex]
  rw [h0]
  rw [h1]
  rfl
def A3Right_spec : Sp := ⟨A3Right_ps, A3Right_rs, A3Right⟩
theorem A3Right_ok : SoundX Tryz.prog CX 91 (.f A3Right_spec) := sound_of look_nil Tryz.func91 (by kernel_rfl) rfl A3Right_an A3Right_spec rfl rfl A3Right_qx

/-! ### noonmark/noonmarkref04.Right -/
abbrev A2Right_ps : Ty := T_api_Day
abbrev A2Right_rs : Ty := (.pair .bool .unit)
def A2Right_sp : Specs := look [(68, .f A2Long_spec)]
def A2Right_an : An := .o
abbrev A2Right_R := Option (Bool × Unit)

def A2Right_px (n : Nat) (x : D_api_Day) : A2Right_R :=
  bif (decide (x.1 ≥ (-9999))) then
    bif (decide (x.1 ≤ 9999)) then
      bif (decide (x.2.1 ≥ 1)) then
        bif (decide (x.2.1 ≤ 12)) then
          bif (decide (x.2.2.1 ≥ 1)) then
            ((A2Long n (x.1, (x.2.1, ())))).bind fun v1 =>
            some ((decide (x.2.2.1 ≤ v1.1)), ())
          else
            some (false, ())
        else
          some (false, ())
      else
        some (false, ())
    else
      some (false, ())
  else
    some (false, ())
def A2Right (n : Nat) (x : D_api_Day) : A2Right_R := A2Right_px n x
theorem A2Right_ex (n : Nat) (rc : RC A2Right_R) (x : D_api_Day) : codeR rc Tryz.prog A2Right_sp n (bodyOf Tryz.f92) A2Right_an (start A2Right_ps x (Func.ntmps Tryz.f92)) (kFin Tryz.prog A2Right_rs Tryz.f92) = A2Right_px n x := by kernel_rfl
theorem A2Right_qx (n : Nat) (x : D_api_Day) : codeK Tryz.prog A2Right_sp n (bodyOf Tryz.f92) A2Right_an (start A2Right_ps x (Func.ntmps Tryz.f92)) (kFin Tryz.prog A2Right_rs Tryz.f92) = A2Right n x := by
  rw [codeK_R, A2Right_ex]
  rfl
def A2Right_spec : Sp := ⟨A2Right_ps, A2Right_rs, A2Right⟩
theorem A2Right_ok : SoundX Tryz.prog CX 92 (.f A2Right_spec) := sound_of (look_cons A2Long_ok look_nil) Tryz.func92 (by kernel_rfl) rfl A2Right_an A2Right_spec rfl rfl A2Right_qx

/-! ### noonmark/noonmarkref04.Days -/
abbrev A2Days_ps : Ty := T_api_Day
abbrev A2Days_rs : Ty := T_api_At
def A2Days_sp : Specs := look [(67, .f A2year_spec), (68, .f A2Long_spec), (92, .f A2Right_spec)]
def A2Days_an : An := (.s .o (.s .o (.s .o (.k [] [2,8] 0 (.k [] [0,1,2,8,9] 0 .o (.b (.l [] [0,1,2,8,9] 0 .o))) .o))))
abbrev A2Days_R := Option D_api_At
noncomputable abbrev A2Days_c0 : Code := (cr (cr (cr (cr (bodyOf Tryz.f93)))))
noncomputable abbrev A2Days_c1 : Code := (cl (cl (cr (cl (cr (cr (cr (bodyOf Tryz.f93))))))))
noncomputable abbrev A2Days_c2 : Code := (cr (cl (cr (cr (cr (bodyOf Tryz.f93))))))
noncomputable abbrev A2Days_a0 : An := A2Days_an.right.right.right.right
noncomputable abbrev A2Days_a1 : An := A2Days_an.right.right.right.left.right.left.left
noncomputable abbrev A2Days_a2 : An := A2Days_an.right.right.right
noncomputable abbrev A2Days_a3 : An := A2Days_an.right.right.right.left.right.left
noncomputable abbrev A2Days_a4 : An := A2Days_an.right.right.right.left.right
noncomputable abbrev A2Days_K0 (r2 k0 : St → A2Days_R) : Ex → St → A2Days_R := (kSeq r2 A2Days_a3 (kBlk 0 (kSeq k0 A2Days_a2 (kFin Tryz.prog A2Days_rs Tryz.f93))))
noncomputable abbrev A2Days_K1 (k0 : St → A2Days_R) : Ex → St → A2Days_R := (kSeq k0 A2Days_a2 (kFin Tryz.prog A2Days_rs Tryz.f93))
abbrev A2Days_t0 := Int × Int
def A2Days_m0 (z : A2Days_t0) : St := ⟨(.junk :: .junk :: .v ⟨(.int .i64), z.1⟩ :: jk 5 (.v ⟨(.int .i64), z.2⟩ :: jk 22 [])), []⟩
abbrev A2Days_t1 := Int × Int × Int × Int × Int
def A2Days_m1 (z : A2Days_t1) : St := ⟨(.v ⟨(.int .i64), z.1⟩ :: .v ⟨(.int .i64), z.2.1⟩ :: .v ⟨(.int .i64), z.2.2.1⟩ :: jk 5 (.v ⟨(.int .i64), z.2.2.2.1⟩ :: .v ⟨(.int .i64), z.2.2.2.2⟩ :: jk 21 [])), []⟩
abbrev A2Days_t2 := Int × Int × Int × Int × Int
def A2Days_m2 (z : A2Days_t2) : St := ⟨(.v ⟨(.int .i64), z.1⟩ :: .v ⟨(.int .i64), z.2.1⟩ :: .v ⟨(.int .i64), z.2.2.1⟩ :: jk 5 (.v ⟨(.int .i64), z.2.2.2.1⟩ :: .v ⟨(.int .i64), z.2.2.2.2⟩ :: jk 21 [])), []⟩
def A2Days_p0 (_n : Nat) (z : A2Days_t0) : A2Days_R :=
  some ((w64 ((w64 (z.2 + z.1)) - 1)), ((0 : Int), ()))
def A2Days_s0 (n : Nat) (z : A2Days_t0) : A2Days_R := A2Days_p0 n z
theorem A2Days_e0 (n : Nat) (rc : RC A2Days_R) (z : A2Days_t0) : codeR rc Tryz.prog A2Days_sp n A2Days_c0 A2Days_a0 (A2Days_m0 z) (kFin Tryz.prog A2Days_rs Tryz.f93) = A2Days_p0 n z := by kernel_rfl
theorem A2Days_q0 (n : Nat) (z : A2Days_t0) : codeK Tryz.prog A2Days_sp n A2Days_c0 A2Days_a0 (A2Days_m0 z) (kFin Tryz.prog A2Days_rs Tryz.f93) = A2Days_s0 n z := by
  rw [codeK_R, A2Days_e0]
  rfl
def A2Days_p2 (n : Nat) (k0 : A2Days_t0 → A2Days_R) (r2 : A2Days_t2 → A2Days_R) (z : A2Days_t2) : A2Days_R :=
  bif (decide (z.2.2.2.2 < z.2.1)) then
    ((A2Long n (z.1, (z.2.2.2.2, ())))).bind fun v3 =>
    r2 (z.1, z.2.1, z.2.2.1, (w64 (z.2.2.2.1 + v3.1)), (w64 (z.2.2.2.2 + 1)))
  else
    k0 (z.2.2.1, z.2.2.2.1)
def A2Days_s2 (n : Nat) (k0 : A2Days_t0 → A2Days_R) (r2 : A2Days_t2 → A2Days_R) (z : A2Days_t2) : A2Days_R := A2Days_p2 n k0 r2 z
theorem A2Days_e2 (n : Nat) (k0 : St → A2Days_R) (r2 : St → A2Days_R) (rc : RC A2Days_R) (z : A2Days_t2) : codeR rc Tryz.prog A2Days_sp n A2Days_c1 A2Days_a1 (A2Days_m2 z) (A2Days_K0 r2 k0) = A2Days_p2 n (fun y => k0 (A2Days_m0 y)) (fun y => r2 (A2Days_m2 y)) z := by kernel_rfl
theorem A2Days_q2 (n : Nat) (k0 : St → A2Days_R) (r2 : St → A2Days_R) (z : A2Days_t2) : codeK Tryz.prog A2Days_sp n A2Days_c1 A2Days_a1 (A2Days_m2 z) (A2Days_K0 r2 k0) = A2Days_s2 n (fun y => k0 (A2Days_m0 y)) (fun y => r2 (A2Days_m2 y)) z := by
  rw [codeK_R, A2Days_e2]
  rfl
def A2Days_s1 (n : Nat) (k0 : A2Days_t0 → A2Days_R) (z : A2Days_t1) : A2Days_R :=
  rounds (fun r2 x' => A2Days_s2 n k0 r2 x') n (z.1, z.2.1, z.2.2.1, z.2.2.2.1, z.2.2.2.2)
theorem A2Days_q1 (n : Nat) (k0 : St → A2Days_R) (z : A2Days_t1) : codeK Tryz.prog A2Days_sp n A2Days_c2 A2Days_a4 (A2Days_m1 z) (A2Days_K1 k0) = A2Days_s1 n (fun y => k0 (A2Days_m0 y)) z :=
  Eq.trans (b := rounds (fun r2 st => codeK Tryz.prog A2Days_sp n A2Days_c1 A2Days_a1 st (A2Days_K0 r2 k0)) n (A2Days_m2 (z.1, z.2.1, z.2.2.1, z.2.2.2.1, z.2.2.2.2))) (by kernel_rfl) (rounds_mk A2Days_m2 (fun r2 x' => by
    have := (A2Days_q2 n k0 r2 x')
    exact this) n _)
def A2Days_px (n : Nat) (k0 : A2Days_t0 → A2Days_R) (k1 : A2Days_t1 → A2Days_R) (x : D_api_Day) : A2Days_R :=
  ((A2Right n (x.1, (x.2.1, (x.2.2.1, ()))))).bind fun v1 =>
  bif (!v1.1) then
    some ((0 : Int), ((6 : Int), ()))
  else
    ((A2year n (x.1, ()))).bind fun v2 =>
    k1 (x.1, x.2.1, x.2.2.1, v2.1, (1 : Int))
def A2Days (n : Nat) (x : D_api_Day) : A2Days_R := A2Days_px n (A2Days_s0 n) (A2Days_s1 n (A2Days_s0 n)) x
theorem A2Days_ex (n : Nat) (rc : RC A2Days_R) (x : D_api_Day) : codeR rc Tryz.prog A2Days_sp n (bodyOf Tryz.f93) A2Days_an (start A2Days_ps x (Func.ntmps Tryz.f93)) (kFin Tryz.prog A2Days_rs Tryz.f93) = A2Days_px n (fun y => rc A2Days_c0 A2Days_a0 (A2Days_m0 y) (kFin Tryz.prog A2Days_rs Tryz.f93)) (fun y => rc A2Days_c2 A2Days_a4 (A2Days_m1 y) (A2Days_K1 (fun st => rc A2Days_c0 A2Days_a0 st (kFin Tryz.prog A2Days_rs Tryz.f93)))) x := by kernel_rfl
theorem A2Days_qx (n : Nat) (x : D_api_Day) : codeK Tryz.prog A2Days_sp n (bodyOf Tryz.f93) A2Days_an (start A2Days_ps x (Func.ntmps Tryz.f93)) (kFin Tryz.prog A2Days_rs Tryz.f93) = A2Days n x := by
  have h0 : (fun y => codeK Tryz.prog A2Days_sp n A2Days_c0 A2Days_a0 (A2Days_m0 y) (kFin Tryz.prog A2Days_rs Tryz.f93)) = (A2Days_s0 n) := funext fun y => by
    have := A2Days_q0 n  y
    exact this
  have h1 : (fun y => codeK Tryz.prog A2Days_sp n A2Days_c2 A2Days_a4 (A2Days_m1 y) (A2Days_K1 (fun st => codeK Tryz.prog A2Days_sp n A2Days_c0 A2Days_a0 st (kFin Tryz.prog A2Days_rs Tryz.f93)))) = (A2Days_s1 n (A2Days_s0 n)) := funext fun y => by
    have := A2Days_q1 n (fun st => codeK Tryz.prog A2Days_sp n A2Days_c0 A2Days_a0 st (kFin Tryz.prog A2Days_rs Tryz.f93)) y
    rw [h0] at this; exact this
  rw [codeK_R, A2Days_ex]
  rw [h0]
  rw [h1]
  rfl
def A2Days_spec : Sp := ⟨A2Days_ps, A2Days_rs, A2Days⟩
theorem A2Days_ok : SoundX Tryz.prog CX 93 (.f A2Days_spec) := sound_of (look_cons A2year_ok (look_cons A2Long_ok (look_cons A2Right_ok look_nil))) Tryz.func93 (by kernel_rfl) rfl A2Days_an A2Days_spec rfl rfl A2Days_qx

/-! ### noonmark/noonmarkref04.Week -/
abbrev A2Week_ps : Ty := (.pair (.int .i64) .unit)
abbrev A2Week_rs : Ty := (.pair (.int .i64) .unit)
def A2Week_sp : Specs := look []
def A2Week_an : An := .o
abbrev A2Week_R := Option (Int × Unit)

def A2Week_px (_n : Nat) (x : (Int × Unit)) : A2Week_R :=
  some ((Int.tmod (w64 ((Int.tmod x.1 (7 : Int)) + 11)) (7 : Int)), ())
def A2Week (n : Nat) (x : (Int × Unit)) : A2Week_R := A2Week_px n x
theorem A2Week_ex (n : Nat) (rc : RC A2Week_R) (x : (Int × Unit)) : codeR rc Tryz.prog A2Week_sp n (bodyOf Tryz.f94) A2Week_an (start A2Week_ps x (Func.ntmps Tryz.f94)) (kFin Tryz.prog A2Week_rs Tryz.f94) = A2Week_px n x := by kernel_rfl
theorem A2Week_qx (n : Nat) (x : (Int × Unit)) : codeK Tryz.prog A2Week_sp n (bodyOf Tryz.f94) A2Week_an (start A2Week_ps x (Func.ntmps Tryz.f94)) (kFin Tryz.prog A2Week_rs Tryz.f94) = A2Week n x := by
  rw [codeK_R, A2Week_ex]
  rfl
def A2Week_spec : Sp := ⟨A2Week_ps, A2Week_rs, A2Week⟩
theorem A2Week_ok : SoundX Tryz.prog CX 94 (.f A2Week_spec) := sound_of look_nil Tryz.func94 (by kernel_rfl) rfl A2Week_an A2Week_spec rfl rfl A2Week_qx

/-! ### noonmark/noonmarkref06.Of -/
abbrev A3Of_ps : Ty := (.pair T_api_Day T_api_At)
abbrev A3Of_rs : Ty := T_api_At
def A3Of_sp : Specs := look [(68, .f A2Long_spec), (91, .f A3Right_spec), (92, .f A2Right_spec), (93, .f A2Days_spec), (94, .f A2Week_spec)]
def A3Of_an : An := (.s .o (.s .o (.s .o (.s .o (.s .o (.k [] [1,2,3,9] 1 .o (.s .o (.s .o (.k [] [10] 0 (.k [] [3,10,12] 1 .o (.b (.l [] [3,10,12] 1 (.s .o (.k [] [3,10,12] 1 .o .o))))) .o)))))))))
abbrev A3Of_R := Option D_api_At
noncomputable abbrev A3Of_c0 : Code := (cr (cr (cr (cr (cr (cr (cr (cr (cr (bodyOf Tryz.f66))))))))))
noncomputable abbrev A3Of_c1 : Code := (cr (cr (cl (cl (cr (cl (cr (cr (cr (cr (cr (cr (cr (cr (bodyOf Tryz.f66)))))))))))))))
noncomputable abbrev A3Of_c2 : Code := (cl (cl (cr (cl (cr (cr (cr (cr (cr (cr (cr (cr (bodyOf Tryz.f66)))))))))))))
noncomputable abbrev A3Of_c3 : Code := (cr (cl (cr (cr (cr (cr (cr (cr (cr (cr (bodyOf Tryz.f66)))))))))))
noncomputable abbrev A3Of_c4 : Code := (cr (cr (cr (cr (cr (cr (bodyOf Tryz.f66)))))))
noncomputable abbrev A3Of_a0 : An := A3Of_an.right.right.right.right.right.right.right.right.right
noncomputable abbrev A3Of_a1 : An := A3Of_an.right.right.right.right.right.right.right.right.left.right.left.left.right.right
noncomputable abbrev A3Of_a2 : An := A3Of_an.right.right.right.right.right.right.right.right
noncomputable abbrev A3Of_a3 : An := A3Of_an.right.right.right.right.right.right.right.right.left.right.left
noncomputable abbrev A3Of_a4 : An := A3Of_an.right.right.right.right.right.right.right.right.left.right.left.left
noncomputable abbrev A3Of_a5 : An := A3Of_an.right.right.right.right.right.right.right.right.left.right
noncomputable abbrev A3Of_a6 : An := A3Of_an.right.right.right.right.right.right
noncomputable abbrev A3Of_K0 (r3 k1 : St → A3Of_R) : Ex → St → A3Of_R := (kSeq r3 A3Of_a3 (kBlk 0 (kSeq k1 A3Of_a2 (kFin Tryz.prog A3Of_rs Tryz.f66))))
noncomputable abbrev A3Of_K1 (r3 k1 : St → A3Of_R) : Ex → St → A3Of_R := (kSeq r3 A3Of_a3 (kBlk 0 (kSeq k1 A3Of_a2 (kFin Tryz.prog A3Of_rs Tryz.f66))))
noncomputable abbrev A3Of_K2 (k1 : St → A3Of_R) : Ex → St → A3Of_R := (kSeq k1 A3Of_a2 (kFin Tryz.prog A3Of_rs Tryz.f66))
abbrev A3Of_t0 := Int × Int × Int × D_api_Day
def A3Of_m0 (z : A3Of_t0) : St := ⟨(.junk :: .v ⟨(.int .i64), z.1⟩ :: .v ⟨(.int .i64), z.2.1⟩ :: .v ⟨(.ptr 0 0 T_api_Day), ()⟩ :: jk 5 (.v ⟨(.int .i64), z.2.2.1⟩ :: jk 55 [])), [some (.one ⟨T_api_Day, z.2.2.2⟩)]⟩
abbrev A3Of_t1 := Int
def A3Of_m1 (z : A3Of_t1) : St := ⟨(jk 10 (.v ⟨(.int .i64), z⟩ :: jk 54 [])), []⟩
abbrev A3Of_t2 := Int × Int × D_api_Day
def A3Of_m2 (z : A3Of_t2) : St := ⟨(jk 3 (.v ⟨(.ptr 0 0 T_api_Day), ()⟩ :: jk 6 (.v ⟨(.int .i64), z.1⟩ :: .junk :: .v ⟨(.int .i64), z.2.1⟩ :: jk 52 []))), [some (.one ⟨T_api_Day, z.2.2⟩)]⟩
abbrev A3Of_t3 := Int × Int × D_api_Day
def A3Of_m3 (z : A3Of_t3) : St := ⟨(jk 3 (.v ⟨(.ptr 0 0 T_api_Day), ()⟩ :: jk 6 (.v ⟨(.int .i64), z.1⟩ :: .junk :: .v ⟨(.int .i64), z.2.1⟩ :: jk 52 []))), [some (.one ⟨T_api_Day, z.2.2⟩)]⟩
abbrev A3Of_t4 := Int × Int × D_api_Day
def A3Of_m4 (z : A3Of_t4) : St := ⟨(jk 3 (.v ⟨(.ptr 0 0 T_api_Day), ()⟩ :: jk 6 (.v ⟨(.int .i64), z.1⟩ :: .junk :: .v ⟨(.int .i64), z.2.1⟩ :: jk 52 []))), [some (.one ⟨T_api_Day, z.2.2⟩)]⟩
def A3Of_p1 (_n : Nat) (z : A3Of_t1) : A3Of_R :=
  some (z, ((0 : Int), ()))
def A3Of_s1 (n : Nat) (z : A3Of_t1) : A3Of_R := A3Of_p1 n z
theorem A3Of_e1 (n : Nat) (rc : RC A3Of_R) (z : A3Of_t1) : codeR rc Tryz.prog A3Of_sp n A3Of_c0 A3Of_a0 (A3Of_m1 z) (kFin Tryz.prog A3Of_rs Tryz.f66) = A3Of_p1 n z := by kernel_rfl
theorem A3Of_q1 (n : Nat) (z : A3Of_t1) : codeK Tryz.prog A3Of_sp n A3Of_c0 A3Of_a0 (A3Of_m1 z) (kFin Tryz.prog A3Of_rs Tryz.f66) = A3Of_s1 n z := by
  rw [codeK_R, A3Of_e1]
  rfl
def A3Of_p4 (_n : Nat) (_k1 : A3Of_t1 → A3Of_R) (r3 : A3Of_t3 → A3Of_R) (z : A3Of_t4) : A3Of_R :=
  r3 (z.1, (w64 (z.2.1 + 1)), z.2.2)
def A3Of_s4 (n : Nat) (k1 : A3Of_t1 → A3Of_R) (r3 : A3Of_t3 → A3Of_R) (z : A3Of_t4) : A3Of_R := A3Of_p4 n k1 r3 z
theorem A3Of_e4 (n : Nat) (k1 : St → A3Of_R) (r3 : St → A3Of_R) (rc : RC A3Of_R) (z : A3Of_t4) : codeR rc Tryz.prog A3Of_sp n A3Of_c1 A3Of_a1 (A3Of_m4 z) (A3Of_K0 r3 k1) = A3Of_p4 n (fun y => k1 (A3Of_m1 y)) (fun y => r3 (A3Of_m3 y)) z := by kernel_rfl
theorem A3Of_q4 (n : Nat) (k1 : St → A3Of_R) (r3 : St → A3Of_R) (z : A3Of_t4) : codeK Tryz.prog A3Of_sp n A3Of_c1 A3Of_a1 (A3Of_m4 z) (A3Of_K0 r3 k1) = A3Of_s4 n (fun y => k1 (A3Of_m1 y)) (fun y => r3 (A3Of_m3 y)) z := by
  rw [codeK_R, A3Of_e4]
  rfl
def A3Of_p3 (n : Nat) (k1 : A3Of_t1 → A3Of_R) (_r3 : A3Of_t3 → A3Of_R) (k4 : A3Of_t4 → A3Of_R) (z : A3Of_t3) : A3Of_R :=
  bif (decide (z.2.1 < 7)) then
    ((A2Week n (z.1, ()))).bind fun v5 =>
    bif (v5.1 != z.2.2.2.2.1) then
      bif (z.2.2.1 == 2) then
        k4 ((w64 (z.1 + 1)), z.2.1, z.2.2)
      else
        k4 ((w64 (z.1 - 1)), z.2.1, z.2.2)
    else
      k1 z.1
  else
    k1 z.1
def A3Of_s3 (n : Nat) (k1 : A3Of_t1 → A3Of_R) (r3 : A3Of_t3 → A3Of_R) (z : A3Of_t3) : A3Of_R := A3Of_p3 n k1 r3 (A3Of_s4 n k1 r3) z
theorem A3Of_e3 (n : Nat) (k1 : St → A3Of_R) (r3 : St → A3Of_R) (rc : RC A3Of_R) (z : A3Of_t3) : codeR rc Tryz.prog A3Of_sp n A3Of_c2 A3Of_a4 (A3Of_m3 z) (A3Of_K1 r3 k1) = A3Of_p3 n (fun y => k1 (A3Of_m1 y)) (fun y => r3 (A3Of_m3 y)) (fun y => rc A3Of_c1 A3Of_a1 (A3Of_m4 y) (A3Of_K0 r3 k1)) z := by kernel_rfl
theorem A3Of_q3 (n : Nat) (k1 : St → A3Of_R) (r3 : St → A3Of_R) (z : A3Of_t3) : codeK Tryz.prog A3Of_sp n A3Of_c2 A3Of_a4 (A3Of_m3 z) (A3Of_K1 r3 k1) = A3Of_s3 n (fun y => k1 (A3Of_m1 y)) (fun y => r3 (A3Of_m3 y)) z := by
  have h4 : (fun y => codeK Tryz.prog A3Of_sp n A3Of_c1 A3Of_a1 (A3Of_m4 y) (A3Of_K0 r3 k1)) = (A3Of_s4 n (fun y => k1 (A3Of_m1 y)) (fun y => r3 (A3Of_m3 y))) := funext fun y => by
    have := A3Of_q4 n k1 r3 y
    exact this
  rw [codeK_R, A3Of_e3]
  rw [h4]
  rfl
def A3Of_s2 (n : Nat) (k1 : A3Of_t1 → A3Of_R) (z : A3Of_t2) : A3Of_R :=
  rounds (fun r3 x' => A3Of_s3 n k1 r3 x') n (z.1, z.2.1, z.2.2)
theorem A3Of_q2 (n : Nat) (k1 : St → A3Of_R) (z : A3Of_t2) : codeK Tryz.prog A3Of_sp n A3Of_c3 A3Of_a5 (A3Of_m2 z) (A3Of_K2 k1) = A3Of_s2 n (fun y => k1 (A3Of_m1 y)) z :=
  Eq.trans (b := rounds (fun r3 st => codeK Tryz.prog A3Of_sp n A3Of_c2 A3Of_a4 st (A3Of_K1 r3 k1)) n (A3Of_m3 (z.1, z.2.1, z.2.2))) (by kernel_rfl) (rounds_mk A3Of_m3 (fun r3 x' => by
    have := (A3Of_q3 n k1 r3 x')
    exact this) n _)
def A3Of_p0 (n : Nat) (k1 : A3Of_t1 → A3Of_R) (k2 : A3Of_t2 → A3Of_R) (z : A3Of_t0) : A3Of_R :=
  ((A2Days n (z.1, (z.2.1, (z.2.2.1, ()))))).bind fun v4 =>
  bif (z.2.2.2.1 == 0) then
    some (v4.1, ((0 : Int), ()))
  else
    k2 (v4.1, (0 : Int), z.2.2.2)
def A3Of_s0 (n : Nat) (z : A3Of_t0) : A3Of_R := A3Of_p0 n (A3Of_s1 n) (A3Of_s2 n (A3Of_s1 n)) z
theorem A3Of_e0 (n : Nat) (rc : RC A3Of_R) (z : A3Of_t0) : codeR rc Tryz.prog A3Of_sp n A3Of_c4 A3Of_a6 (A3Of_m0 z) (kFin Tryz.prog A3Of_rs Tryz.f66) = A3Of_p0 n (fun y => rc A3Of_c0 A3Of_a0 (A3Of_m1 y) (kFin Tryz.prog A3Of_rs Tryz.f66)) (fun y => rc A3Of_c3 A3Of_a5 (A3Of_m2 y) (A3Of_K2 (fun st => rc A3Of_c0 A3Of_a0 st (kFin Tryz.prog A3Of_rs Tryz.f66)))) z := by kernel_rfl
theorem A3Of_q0 (n : Nat) (z : A3Of_t0) : codeK Tryz.prog A3Of_sp n A3Of_c4 A3Of_a6 (A3Of_m0 z) (kFin Tryz.prog A3Of_rs Tryz.f66) = A3Of_s0 n z := by
  have h1 : (fun y => codeK Tryz.prog A3Of_sp n A3Of_c0 A3Of_a0 (A3Of_m1 y) (kFin Tryz.prog A3Of_rs Tryz.f66)) = (A3Of_s1 n) := funext fun y => by
    have := A3Of_q1 n  y
    exact this
  have h2 : (fun y => codeK Tryz.prog A3Of_sp n A3Of_c3 A3Of_a5 (A3Of_m2 y) (A3Of_K2 (fun st => codeK Tryz.prog A3Of_sp n A3Of_c0 A3Of_a0 st (kFin Tryz.prog A3Of_rs Tryz.f66)))) = (A3Of_s2 n (A3Of_s1 n)) := funext fun y => by
    have := A3Of_q2 n (fun st => codeK Tryz.prog A3Of_sp n A3Of_c0 A3Of_a0 st (kFin Tryz.prog A3Of_rs Tryz.f66)) y
    rw [h1] at this; exact this
  rw [codeK_R, A3Of_e0]
  rw [h1]
  rw [h2]
  rfl
def A3Of_px (n : Nat) (k0 : A3Of_t0 → A3Of_R) (x : (D_api_Day × D_api_At)) : A3Of_R :=
  ((A3Right n (x.1, ()))).bind fun v1 =>
  bif (!v1.1) then
    some ((0 : Int), ((1 : Int), ()))
  else
    ((A2Long n (x.2.1, (x.2.2.1, ())))).bind fun v2 =>
    ((A2Right n (x.2.1, (x.2.2.1, ((1 : Int), ()))))).bind fun v3 =>
    bif (!v3.1) then
      some ((0 : Int), ((6 : Int), ()))
    else
      bif (decide (x.1.2.1 > v2.1)) then
        some ((0 : Int), ((6 : Int), ()))
      else
        bif (x.1.1 == 1) then
          k0 (x.2.1, x.2.2.1, v2.1, x.1)
        else
          k0 (x.2.1, x.2.2.1, x.1.2.1, x.1)
def A3Of (n : Nat) (x : (D_api_Day × D_api_At)) : A3Of_R := A3Of_px n (A3Of_s0 n) x
theorem A3Of_ex (n : Nat) (rc : RC A3Of_R) (x : (D_api_Day × D_api_At)) : codeR rc Tryz.prog A3Of_sp n (bodyOf Tryz.f66) A3Of_an (start A3Of_ps x (Func.ntmps Tryz.f66)) (kFin Tryz.prog A3Of_rs Tryz.f66) = A3Of_px n (fun y => rc A3Of_c4 A3Of_a6 (A3Of_m0 y) (kFin Tryz.prog A3Of_rs Tryz.f66)) x := by kernel_rfl
theorem A3Of_qx (n : Nat) (x : (D_api_Day × D_api_At)) : codeK Tryz.prog A3Of_sp n (bodyOf Tryz.f66) A3Of_an (start A3Of_ps x (Func.ntmps Tryz.f66)) (kFin Tryz.prog A3Of_rs Tryz.f66) = A3Of n x := by
  have h0 : (fun y => codeK Tryz.prog A3Of_sp n A3Of_c4 A3Of_a6 (A3Of_m0 y) (kFin Tryz.prog A3Of_rs Tryz.f66)) = (A3Of_s0 n) := funext fun y => by
    have := A3Of_q0 n  y
    exact this
  rw [codeK_R, A3Of_ex]
  rw [h0]
  rfl
def A3Of_spec : Sp := ⟨A3Of_ps, A3Of_rs, A3Of⟩
theorem A3Of_ok : SoundX Tryz.prog CX 66 (.f A3Of_spec) := sound_of (look_cons A2Long_ok (look_cons A3Right_ok (look_cons A2Right_ok (look_cons A2Days_ok (look_cons A2Week_ok look_nil))))) Tryz.func66 (by kernel_rfl) rfl A3Of_an A3Of_spec rfl rfl A3Of_qx

/-! ### noonmark/noonmarkref14.before -/
abbrev A4before_ps : Ty := (.pair T_EFire (.pair T_EFire .unit))
abbrev A4before_rs : Ty := (.pair .bool .unit)
def A4before_sp : Specs := look []
def A4before_an : An := .o
abbrev A4before_R := Option (Bool × Unit)

def A4before_px (_n : Nat) (x : (D_EFire × (D_EFire × Unit))) : A4before_R :=
  bif (decide (x.1.2.2.1 < x.2.1.2.2.1)) then
    some (true, ())
  else
    bif (x.1.2.2.1 == x.2.1.2.2.1) then
      some ((decide (x.1.1 < x.2.1.1)), ())
    else
      some (false, ())
def A4before (n : Nat) (x : (D_EFire × (D_EFire × Unit))) : A4before_R := A4before_px n x
theorem A4before_ex (n : Nat) (rc : RC A4before_R) (x : (D_EFire × (D_EFire × Unit))) : codeR rc Tryz.prog A4before_sp n (bodyOf Tryz.f98) A4before_an (start A4before_ps x (Func.ntmps Tryz.f98)) (kFin Tryz.prog A4before_rs Tryz.f98) = A4before_px n x := by kernel_rfl
theorem A4before_qx (n : Nat) (x : (D_EFire × (D_EFire × Unit))) : codeK Tryz.prog A4before_sp n (bodyOf Tryz.f98) A4before_an (start A4before_ps x (Func.ntmps Tryz.f98)) (kFin Tryz.prog A4before_rs Tryz.f98) = A4before n x := by
  rw [codeK_R, A4before_ex]
  rfl
def A4before_spec : Sp := ⟨A4before_ps, A4before_rs, A4before⟩
theorem A4before_ok : SoundX Tryz.prog CX 98 (.f A4before_spec) := sound_of look_nil Tryz.func98 (by kernel_rfl) rfl A4before_an A4before_spec rfl rfl A4before_qx

/-! ### noonmark/noonmarkref14.year -/
abbrev A4year_ps : Ty := (.pair (.list T_api_Rule) (.pair (.int .i64) .unit))
abbrev A4year_rs : Ty := (.pair (.list T_EFire) .unit)
abbrev A4year_rr : Ty := .unit
def A4year_sp : Specs := look [(66, .f A3Of_spec), (98, .f A4before_spec)]
def A4year_an : An := (.s .o (.s .o (.k [] [5] 1 (.k [] [0,1,5,6] 0 .o (.b (.l [(5, (.sl 0 T_EFire), 121)] [0,1,5,6] 1 (.s .o (.k [(5, (.sl 0 T_EFire), 121)] [0,1,5,6] 1 (.b (.k [] [0,1,5,6] 1 (.k [] [0,1,5,6,40] 1 .o .o) (.s .o (.s .o (.s .o (.k [] [0,1,5,6,9,10] 2 .o (.k [] [0,1,5,6,9,10] 2 (.b (.l [] [0,1,5,6,9,10] 2 .o)) .o))))))) .o))))) .o)))
abbrev A4year_R := Option ((List D_EFire) × Unit)
noncomputable abbrev A4year_c0 : Code := (cr (cr (cr (bodyOf Tryz.f97))))
noncomputable abbrev A4year_c1 : Code := (cr (cr (cl (cl (cr (cl (cr (cr (bodyOf Tryz.f97)))))))))
noncomputable abbrev A4year_c2 : Code := (cl (cl (cl (cr (cr (cr (cr (cr (cl (cl (cr (cl (cl (cr (cl (cr (cr (bodyOf Tryz.f97))))))))))))))))))
noncomputable abbrev A4year_c3 : Code := (cr (cr (cr (cr (cr (cr (cl (cl (cr (cl (cl (cr (cl (cr (cr (bodyOf Tryz.f97))))))))))))))))
noncomputable abbrev A4year_c4 : Code := (cr (cr (cr (cr (cr (cl (cl (cr (cl (cl (cr (cl (cr (cr (bodyOf Tryz.f97)))))))))))))))
noncomputable abbrev A4year_c5 : Code := (cr (cl (cl (cr (cl (cl (cr (cl (cr (cr (bodyOf Tryz.f97)))))))))))
noncomputable abbrev A4year_c6 : Code := (cr (cl (cl (cl (cr (cl (cl (cr (cl (cr (cr (bodyOf Tryz.f97))))))))))))
noncomputable abbrev A4year_c7 : Code := (cl (cl (cr (cl (cr (cr (bodyOf Tryz.f97)))))))
noncomputable abbrev A4year_c8 : Code := (cr (cl (cr (cr (bodyOf Tryz.f97)))))
noncomputable abbrev A4year_a0 : An := A4year_an.right.right.right
noncomputable abbrev A4year_a1 : An := A4year_an.right.right.left.right.left.left.right.right
noncomputable abbrev A4year_a2 : An := A4year_an.right.right
noncomputable abbrev A4year_a3 : An := A4year_an.right.right.left.right.left
noncomputable abbrev A4year_a4 : An := A4year_an.right.right.left.right.left.left.right.left.left.right.right.right.right.right.left.left.left
noncomputable abbrev A4year_a5 : An := A4year_an.right.right.left.right.left.left.right
noncomputable abbrev A4year_a6 : An := A4year_an.right.right.left.right.left.left.right.left.left.right.right.right.right.right
noncomputable abbrev A4year_a7 : An := A4year_an.right.right.left.right.left.left.right.left.left.right.right.right.right.right.left.left
noncomputable abbrev A4year_a8 : An := A4year_an.right.right.left.right.left.left.right.left.left.right.right.right.right.right.right
noncomputable abbrev A4year_a9 : An := A4year_an.right.right.left.right.left.left.right.left.left.right
noncomputable abbrev A4year_a10 : An := A4year_an.right.right.left.right.left.left.right.left.left.left.right
noncomputable abbrev A4year_a11 : An := A4year_an.right.right.left.right.left.left.right.left.left
noncomputable abbrev A4year_a12 : An := A4year_an.right.right.left.right.left.left
noncomputable abbrev A4year_a13 : An := A4year_an.right.right.left.right
noncomputable abbrev A4year_K0 : Ex → St → A4year_R := (kFinO Tryz.prog 121 T_EFire A4year_rr Tryz.f97)
noncomputable abbrev A4year_K1 (r2 k0 : St → A4year_R) : Ex → St → A4year_R := (kSeq r2 A4year_a3 (kBlk 0 (kSeq k0 A4year_a2 (kFinO Tryz.prog 121 T_EFire A4year_rr Tryz.f97))))
noncomputable abbrev A4year_K2 (r8 k7 k3 r2 k0 : St → A4year_R) : Ex → St → A4year_R := (kSeq r8 A4year_a7 (kBlk 2 (kSeq k7 A4year_a6 (kBlk 1 (kSeq k3 A4year_a5 (kSeq r2 A4year_a3 (kBlk 0 (kSeq k0 A4year_a2 (kFinO Tryz.prog 121 T_EFire A4year_rr Tryz.f97)))))))))
noncomputable abbrev A4year_K3 (k3 r2 k0 : St → A4year_R) : Ex → St → A4year_R := (kBlk 1 (kSeq k3 A4year_a5 (kSeq r2 A4year_a3 (kBlk 0 (kSeq k0 A4year_a2 (kFinO Tryz.prog 121 T_EFire A4year_rr Tryz.f97))))))
noncomputable abbrev A4year_K4 (k3 r2 k0 : St → A4year_R) : Ex → St → A4year_R := (kBlk 1 (kSeq k3 A4year_a5 (kSeq r2 A4year_a3 (kBlk 0 (kSeq k0 A4year_a2 (kFinO Tryz.prog 121 T_EFire A4year_rr Tryz.f97))))))
noncomputable abbrev A4year_K5 (k3 r2 k0 : St → A4year_R) : Ex → St → A4year_R := (kBlk 1 (kSeq k3 A4year_a5 (kSeq r2 A4year_a3 (kBlk 0 (kSeq k0 A4year_a2 (kFinO Tryz.prog 121 T_EFire A4year_rr Tryz.f97))))))
noncomputable abbrev A4year_K6 (k4 k3 r2 k0 : St → A4year_R) : Ex → St → A4year_R := (kSeq k4 A4year_a11 (kBlk 1 (kSeq k3 A4year_a5 (kSeq r2 A4year_a3 (kBlk 0 (kSeq k0 A4year_a2 (kFinO Tryz.prog 121 T_EFire A4year_rr Tryz.f97)))))))
noncomputable abbrev A4year_K7 (r2 k0 : St → A4year_R) : Ex → St → A4year_R := (kSeq r2 A4year_a3 (kBlk 0 (kSeq k0 A4year_a2 (kFinO Tryz.prog 121 T_EFire A4year_rr Tryz.f97))))
noncomputable abbrev A4year_K8 (k0 : St → A4year_R) : Ex → St → A4year_R := (kSeq k0 A4year_a2 (kFinO Tryz.prog 121 T_EFire A4year_rr Tryz.f97))
noncomputable abbrev A4year_K9 : Ex → St → A4year_R := (kFinO Tryz.prog 121 T_EFire A4year_rr Tryz.f97)
abbrev A4year_t0 := (List D_EFire)
def A4year_m0 (z : A4year_t0) : St := ⟨(jk 5 (.v ⟨(.sl 0 T_EFire), ()⟩ :: jk 91 [])), [some (.arr 121 T_EFire z)]⟩
abbrev A4year_t1 := (List D_api_Rule) × Int × Int
def A4year_m1 (z : A4year_t1) : St := ⟨(.v ⟨(.list T_api_Rule), z.1⟩ :: .v ⟨(.int .i64), z.2.1⟩ :: jk 3 (.v ⟨(.nl T_EFire), ()⟩ :: .v ⟨(.int .i64), z.2.2⟩ :: jk 90 [])), []⟩
abbrev A4year_t2 := (List D_api_Rule) × Int × Int × (List D_EFire)
def A4year_m2 (z : A4year_t2) : St := ⟨(.v ⟨(.list T_api_Rule), z.1⟩ :: .v ⟨(.int .i64), z.2.1⟩ :: jk 3 (.v ⟨(.sl 0 T_EFire), ()⟩ :: .v ⟨(.int .i64), z.2.2.1⟩ :: jk 90 [])), [some (.arr 121 T_EFire z.2.2.2)]⟩
abbrev A4year_t3 := (List D_api_Rule) × Int × Int × (List D_EFire)
def A4year_m3 (z : A4year_t3) : St := ⟨(.v ⟨(.list T_api_Rule), z.1⟩ :: .v ⟨(.int .i64), z.2.1⟩ :: jk 3 (.v ⟨(.sl 0 T_EFire), ()⟩ :: .v ⟨(.int .i64), z.2.2.1⟩ :: jk 90 [])), [some (.arr 121 T_EFire z.2.2.2)]⟩
abbrev A4year_t4 := (List D_api_Rule) × Int × Int × (List D_EFire)
def A4year_m4 (z : A4year_t4) : St := ⟨(.v ⟨(.list T_api_Rule), z.1⟩ :: .v ⟨(.int .i64), z.2.1⟩ :: jk 3 (.v ⟨(.sl 0 T_EFire), ()⟩ :: .v ⟨(.int .i64), z.2.2.1⟩ :: jk 90 [])), [some (.arr 121 T_EFire z.2.2.2)]⟩
abbrev A4year_t5 := (List D_api_Rule) × Int × Int × Bool × (List D_EFire)
def A4year_m5 (z : A4year_t5) : St := ⟨(.v ⟨(.list T_api_Rule), z.1⟩ :: .v ⟨(.int .i64), z.2.1⟩ :: jk 3 (.v ⟨(.sl 0 T_EFire), ()⟩ :: .v ⟨(.int .i64), z.2.2.1⟩ :: jk 33 (.v ⟨.bool, z.2.2.2.1⟩ :: jk 56 []))), [some (.arr 121 T_EFire z.2.2.2.2)]⟩
abbrev A4year_t6 := (List D_api_Rule) × Int × Int × Int × (List D_EFire) × D_EFire
def A4year_m6 (z : A4year_t6) : St := ⟨(.v ⟨(.list T_api_Rule), z.1⟩ :: .v ⟨(.int .i64), z.2.1⟩ :: jk 3 (.v ⟨(.sl 0 T_EFire), ()⟩ :: .v ⟨(.int .i64), z.2.2.1⟩ :: .junk :: .junk :: .v ⟨(.ptr 1 0 T_EFire), ()⟩ :: .v ⟨(.int .i64), z.2.2.2.1⟩ :: jk 86 [])), [some (.arr 121 T_EFire z.2.2.2.2.1), some (.one ⟨T_EFire, z.2.2.2.2.2⟩)]⟩
abbrev A4year_t7 := (List D_api_Rule) × Int × Int × Int × (List D_EFire) × D_EFire
def A4year_m7 (z : A4year_t7) : St := ⟨(.v ⟨(.list T_api_Rule), z.1⟩ :: .v ⟨(.int .i64), z.2.1⟩ :: jk 3 (.v ⟨(.sl 0 T_EFire), ()⟩ :: .v ⟨(.int .i64), z.2.2.1⟩ :: .junk :: .junk :: .v ⟨(.ptr 1 0 T_EFire), ()⟩ :: .v ⟨(.int .i64), z.2.2.2.1⟩ :: jk 86 [])), [some (.arr 121 T_EFire z.2.2.2.2.1), some (.one ⟨T_EFire, z.2.2.2.2.2⟩)]⟩
abbrev A4year_t8 := (List D_api_Rule) × Int × Int × Int × (List D_EFire) × D_EFire
def A4year_m8 (z : A4year_t8) : St := ⟨(.v ⟨(.list T_api_Rule), z.1⟩ :: .v ⟨(.int .i64), z.2.1⟩ :: jk 3 (.v ⟨(.sl 0 T_EFire), ()⟩ :: .v ⟨(.int .i64), z.2.2.1⟩ :: .junk :: .junk :: .v ⟨(.ptr 1 0 T_EFire), ()⟩ :: .v ⟨(.int .i64), z.2.2.2.1⟩ :: jk 86 [])), [some (.arr 121 T_EFire z.2.2.2.2.1), some (.one ⟨T_EFire, z.2.2.2.2.2⟩)]⟩
def A4year_p0 (_n : Nat) (z : A4year_t0) : A4year_R :=
  some (z, ())
def A4year_s0 (n : Nat) (z : A4year_t0) : A4year_R := A4year_p0 n z
theorem A4year_e0 (n : Nat) (rc : RC A4year_R) (z : A4year_t0) : codeR rc Tryz.prog A4year_sp n A4year_c0 A4year_a0 (A4year_m0 z) A4year_K0 = A4year_p0 n z := by kernel_rfl
theorem A4year_q0 (n : Nat) (z : A4year_t0) : codeK Tryz.prog A4year_sp n A4year_c0 A4year_a0 (A4year_m0 z) A4year_K0 = A4year_s0 n z := by
  rw [codeK_R, A4year_e0]
  rfl
def A4year_p3 (_n : Nat) (_k0 : A4year_t0 → A4year_R) (r2 : A4year_t2 → A4year_R) (z : A4year_t3) : A4year_R :=
  r2 (z.1, z.2.1, (w64 (z.2.2.1 + 1)), z.2.2.2)
def A4year_s3 (n : Nat) (k0 : A4year_t0 → A4year_R) (r2 : A4year_t2 → A4year_R) (z : A4year_t3) : A4year_R := A4year_p3 n k0 r2 z
theorem A4year_e3 (n : Nat) (k0 : St → A4year_R) (r2 : St → A4year_R) (rc : RC A4year_R) (z : A4year_t3) : codeR rc Tryz.prog A4year_sp n A4year_c1 A4year_a1 (A4year_m3 z) (A4year_K1 r2 k0) = A4year_p3 n (fun y => k0 (A4year_m0 y)) (fun y => r2 (A4year_m2 y)) z := by kernel_rfl
theorem A4year_q3 (n : Nat) (k0 : St → A4year_R) (r2 : St → A4year_R) (z : A4year_t3) : codeK Tryz.prog A4year_sp n A4year_c1 A4year_a1 (A4year_m3 z) (A4year_K1 r2 k0) = A4year_s3 n (fun y => k0 (A4year_m0 y)) (fun y => r2 (A4year_m2 y)) z := by
  rw [codeK_R, A4year_e3]
  rfl
def A4year_p8 (n : Nat) (_k0 : A4year_t0 → A4year_R) (_r2 : A4year_t2 → A4year_R) (_k3 : A4year_t3 → A4year_R) (k7 : A4year_t7 → A4year_R) (r8 : A4year_t8 → A4year_R) (z : A4year_t8) : A4year_R :=
  bif (decide (z.2.2.2.1 < (List.length z.2.2.2.2.1 : Int))) then
    bif decide (0 ≤ z.2.2.2.1 ∧ z.2.2.2.1 < (List.length z.2.2.2.2.1 : Int)) then
      ((z.2.2.2.2.1[(Int.toNat z.2.2.2.1)]?)).bind fun e11 =>
      ((A4before n (e11, (z.2.2.2.2.2, ())))).bind fun v12 =>
      bif v12.1 then
        r8 (z.1, z.2.1, z.2.2.1, (w64 (z.2.2.2.1 + 1)), z.2.2.2.2.1, z.2.2.2.2.2)
      else
        k7 (z.1, z.2.1, z.2.2.1, z.2.2.2.1, z.2.2.2.2.1, z.2.2.2.2.2)
    else none
  else
    k7 (z.1, z.2.1, z.2.2.1, z.2.2.2.1, z.2.2.2.2.1, z.2.2.2.2.2)
def A4year_s8 (n : Nat) (k0 : A4year_t0 → A4year_R) (r2 : A4year_t2 → A4year_R) (k3 : A4year_t3 → A4year_R) (k7 : A4year_t7 → A4year_R) (r8 : A4year_t8 → A4year_R) (z : A4year_t8) : A4year_R := A4year_p8 n k0 r2 k3 k7 r8 z
theorem A4year_e8 (n : Nat) (k0 : St → A4year_R) (r2 : St → A4year_R) (k3 : St → A4year_R) (k7 : St → A4year_R) (r8 : St → A4year_R) (rc : RC A4year_R) (z : A4year_t8) : codeR rc Tryz.prog A4year_sp n A4year_c2 A4year_a4 (A4year_m8 z) (A4year_K2 r8 k7 k3 r2 k0) = A4year_p8 n (fun y => k0 (A4year_m0 y)) (fun y => r2 (A4year_m2 y)) (fun y => k3 (A4year_m3 y)) (fun y => k7 (A4year_m7 y)) (fun y => r8 (A4year_m8 y)) z := by kernel_rfl
theorem A4year_q8 (n : Nat) (k0 : St → A4year_R) (r2 : St → A4year_R) (k3 : St → A4year_R) (k7 : St → A4year_R) (r8 : St → A4year_R) (z : A4year_t8) : codeK Tryz.prog A4year_sp n A4year_c2 A4year_a4 (A4year_m8 z) (A4year_K2 r8 k7 k3 r2 k0) = A4year_s8 n (fun y => k0 (A4year_m0 y)) (fun y => r2 (A4year_m2 y)) (fun y => k3 (A4year_m3 y)) (fun y => k7 (A4year_m7 y)) (fun y => r8 (A4year_m8 y)) z := by
  rw [codeK_R, A4year_e8]
  rfl
def A4year_p7 (_n : Nat) (_k0 : A4year_t0 → A4year_R) (_r2 : A4year_t2 → A4year_R) (k3 : A4year_t3 → A4year_R) (z : A4year_t7) : A4year_R :=
  bif decide (0 ≤ z.2.2.2.1 ∧ z.2.2.2.1 ≤ ((List.length z.2.2.2.2.1 : Nat) : Int)) then
    let t14 := List.drop 0 (List.take (Int.toNat z.2.2.2.1) z.2.2.2.2.1)
    bif decide ((List.length ([] : List D_EFire) + List.length t14) * (32 + 1) ≤ 140737488355328) then
      let l15 := ([] : List D_EFire) ++ t14
      let t16 := (z.2.2.2.2.2 :: [])
      bif decide ((List.length l15 + List.length t16) * (32 + 1) ≤ 140737488355328) then
        let l17 := l15 ++ t16
        bif decide (0 ≤ z.2.2.2.1 ∧ z.2.2.2.1 ≤ (((List.length z.2.2.2.2.1) : Nat) : Int)) then
          let t18 := List.drop (Int.toNat z.2.2.2.1) (List.take (List.length z.2.2.2.2.1) z.2.2.2.2.1)
          bif decide ((List.length l17 + List.length t18) * (32 + 1) ≤ 140737488355328) then
            k3 (z.1, z.2.1, z.2.2.1, (l17 ++ t18))
          else none
        else none
      else none
    else none
  else none
def A4year_s7 (n : Nat) (k0 : A4year_t0 → A4year_R) (r2 : A4year_t2 → A4year_R) (k3 : A4year_t3 → A4year_R) (z : A4year_t7) : A4year_R := A4year_p7 n k0 r2 k3 z
theorem A4year_e7 (n : Nat) (k0 : St → A4year_R) (r2 : St → A4year_R) (k3 : St → A4year_R) (rc : RC A4year_R) (z : A4year_t7) : codeR rc Tryz.prog A4year_sp n A4year_c3 A4year_a8 (A4year_m7 z) (A4year_K3 k3 r2 k0) = A4year_p7 n (fun y => k0 (A4year_m0 y)) (fun y => r2 (A4year_m2 y)) (fun y => k3 (A4year_m3 y)) z := by kernel_rfl
theorem A4year_q7 (n : Nat) (k0 : St → A4year_R) (r2 : St → A4year_R) (k3 : St → A4year_R) (z : A4year_t7) : codeK Tryz.prog A4year_sp n A4year_c3 A4year_a8 (A4year_m7 z) (A4year_K3 k3 r2 k0) = A4year_s7 n (fun y => k0 (A4year_m0 y)) (fun y => r2 (A4year_m2 y)) (fun y => k3 (A4year_m3 y)) z := by
  rw [codeK_R, A4year_e7]
  rfl
def A4year_s6 (n : Nat) (k0 : A4year_t0 → A4year_R) (r2 : A4year_t2 → A4year_R) (k3 : A4year_t3 → A4year_R) (z : A4year_t6) : A4year_R :=
  rounds (fun r8 x' => A4year_s8 n k0 r2 k3 (A4year_s7 n k0 r2 k3) r8 x') n (z.1, z.2.1, z.2.2.1, z.2.2.2.1, z.2.2.2.2.1, z.2.2.2.2.2)
theorem A4year_q6 (n : Nat) (k0 : St → A4year_R) (r2 : St → A4year_R) (k3 : St → A4year_R) (z : A4year_t6) : codeK Tryz.prog A4year_sp n A4year_c4 A4year_a6 (A4year_m6 z) (A4year_K4 k3 r2 k0) = A4year_s6 n (fun y => k0 (A4year_m0 y)) (fun y => r2 (A4year_m2 y)) (fun y => k3 (A4year_m3 y)) z :=
  Eq.trans (b := rounds (fun r8 st => codeK Tryz.prog A4year_sp n A4year_c2 A4year_a4 st (A4year_K2 r8 (fun st => codeK Tryz.prog A4year_sp n A4year_c3 A4year_a8 st (A4year_K3 k3 r2 k0)) k3 r2 k0)) n (A4year_m8 (z.1, z.2.1, z.2.2.1, z.2.2.2.1, z.2.2.2.2.1, z.2.2.2.2.2))) (by kernel_rfl) (rounds_mk A4year_m8 (fun r8 x' => by
    have h7 : (fun y => codeK Tryz.prog A4year_sp n A4year_c3 A4year_a8 (A4year_m7 y) (A4year_K3 k3 r2 k0)) = (A4year_s7 n (fun y => k0 (A4year_m0 y)) (fun y => r2 (A4year_m2 y)) (fun y => k3 (A4year_m3 y))) := funext fun y => by
      have := A4year_q7 n k0 r2 k3 y
      exact this
    have := (A4year_q8 n k0 r2 k3 (fun st => codeK Tryz.prog A4year_sp n A4year_c3 A4year_a8 st (A4year_K3 k3 r2 k0)) r8 x')
    rw [h7] at this
    exact this) n _)
def A4year_p4 (n : Nat) (_k0 : A4year_t0 → A4year_R) (_r2 : A4year_t2 → A4year_R) (k3 : A4year_t3 → A4year_R) (k6 : A4year_t6 → A4year_R) (z : A4year_t4) : A4year_R :=
  bif decide (0 ≤ z.2.2.1) then
    ((z.1[Int.toNat z.2.2.1]?)).bind fun e4 =>
    bif decide (0 ≤ z.2.2.1) then
      ((z.1[Int.toNat z.2.2.1]?)).bind fun e5 =>
      ((A3Of n (e4.2.2.2.2.1, (z.2.1, (e5.2.2.2.1, ()))))).bind fun v6 =>
      bif (v6.2.1 != 0) then
        k3 (z.1, z.2.1, z.2.2.1, z.2.2.2)
      else
        bif decide (0 ≤ z.2.2.1) then
          ((z.1[Int.toNat z.2.2.1]?)).bind fun e8 =>
          k6 (z.1, z.2.1, z.2.2.1, (0 : Int), z.2.2.2, (z.2.2.1, (z.2.1, ((w64 ((w64 (v6.1 * 86400)) + e8.2.2.2.2.2.1.1)), ((0 : Int), ())))))
        else none
    else none
  else none
def A4year_s4 (n : Nat) (k0 : A4year_t0 → A4year_R) (r2 : A4year_t2 → A4year_R) (k3 : A4year_t3 → A4year_R) (z : A4year_t4) : A4year_R := A4year_p4 n k0 r2 k3 (A4year_s6 n k0 r2 k3) z
theorem A4year_e4 (n : Nat) (k0 : St → A4year_R) (r2 : St → A4year_R) (k3 : St → A4year_R) (rc : RC A4year_R) (z : A4year_t4) : codeR rc Tryz.prog A4year_sp n A4year_c5 A4year_a9 (A4year_m4 z) (A4year_K5 k3 r2 k0) = A4year_p4 n (fun y => k0 (A4year_m0 y)) (fun y => r2 (A4year_m2 y)) (fun y => k3 (A4year_m3 y)) (fun y => rc A4year_c4 A4year_a6 (A4year_m6 y) (A4year_K4 k3 r2 k0)) z := by kernel_rfl
theorem A4year_q4 (n : Nat) (k0 : St → A4year_R) (r2 : St → A4year_R) (k3 : St → A4year_R) (z : A4year_t4) : codeK Tryz.prog A4year_sp n A4year_c5 A4year_a9 (A4year_m4 z) (A4year_K5 k3 r2 k0) = A4year_s4 n (fun y => k0 (A4year_m0 y)) (fun y => r2 (A4year_m2 y)) (fun y => k3 (A4year_m3 y)) z := by
  have h6 : (fun y => codeK Tryz.prog A4year_sp n A4year_c4 A4year_a6 (A4year_m6 y) (A4year_K4 k3 r2 k0)) = (A4year_s6 n (fun y => k0 (A4year_m0 y)) (fun y => r2 (A4year_m2 y)) (fun y => k3 (A4year_m3 y))) := funext fun y => by
    have := A4year_q6 n k0 r2 k3 y
    exact this
  rw [codeK_R, A4year_e4]
  rw [h6]
  rfl
def A4year_p5 (_n : Nat) (_k0 : A4year_t0 → A4year_R) (_r2 : A4year_t2 → A4year_R) (k3 : A4year_t3 → A4year_R) (k4 : A4year_t4 → A4year_R) (z : A4year_t5) : A4year_R :=
  bif z.2.2.2.1 then
    k3 (z.1, z.2.1, z.2.2.1, z.2.2.2.2)
  else
    k4 (z.1, z.2.1, z.2.2.1, z.2.2.2.2)
def A4year_s5 (n : Nat) (k0 : A4year_t0 → A4year_R) (r2 : A4year_t2 → A4year_R) (k3 : A4year_t3 → A4year_R) (k4 : A4year_t4 → A4year_R) (z : A4year_t5) : A4year_R := A4year_p5 n k0 r2 k3 k4 z
theorem A4year_e5 (n : Nat) (k0 : St → A4year_R) (r2 : St → A4year_R) (k3 : St → A4year_R) (k4 : St → A4year_R) (rc : RC A4year_R) (z : A4year_t5) : codeR rc Tryz.prog A4year_sp n A4year_c6 A4year_a10 (A4year_m5 z) (A4year_K6 k4 k3 r2 k0) = A4year_p5 n (fun y => k0 (A4year_m0 y)) (fun y => r2 (A4year_m2 y)) (fun y => k3 (A4year_m3 y)) (fun y => k4 (A4year_m4 y)) z := by kernel_rfl
theorem A4year_q5 (n : Nat) (k0 : St → A4year_R) (r2 : St → A4year_R) (k3 : St → A4year_R) (k4 : St → A4year_R) (z : A4year_t5) : codeK Tryz.prog A4year_sp n A4year_c6 A4year_a10 (A4year_m5 z) (A4year_K6 k4 k3 r2 k0) = A4year_s5 n (fun y => k0 (A4year_m0 y)) (fun y => r2 (A4year_m2 y)) (fun y => k3 (A4year_m3 y)) (fun y => k4 (A4year_m4 y)) z := by
  rw [codeK_R, A4year_e5]
  rfl
def A4year_p2 (_n : Nat) (k0 : A4year_t0 → A4year_R) (_r2 : A4year_t2 → A4year_R) (k3 : A4year_t3 → A4year_R) (k4 : A4year_t4 → A4year_R) (k5 : A4year_t5 → A4year_R) (z : A4year_t2) : A4year_R :=
  bif (decide (z.2.2.1 < (List.length z.1 : Int))) then
    bif decide (0 ≤ z.2.2.1) then
      ((z.1[Int.toNat z.2.2.1]?)).bind fun e1 =>
      bif (decide (z.2.1 < e1.2.1)) then
        k5 (z.1, z.2.1, z.2.2.1, true, z.2.2.2)
      else
        bif decide (0 ≤ z.2.2.1) then
          ((z.1[Int.toNat z.2.2.1]?)).bind fun e2 =>
          bif (decide (z.2.1 > e2.2.2.1)) then
            k5 (z.1, z.2.1, z.2.2.1, true, z.2.2.2)
          else
            bif (decide (z.2.1 < 1)) then
              k5 (z.1, z.2.1, z.2.2.1, true, z.2.2.2)
            else
              k5 (z.1, z.2.1, z.2.2.1, (decide (z.2.1 > 9999)), z.2.2.2)
        else none
    else none
  else
    k0 z.2.2.2
def A4year_s2 (n : Nat) (k0 : A4year_t0 → A4year_R) (r2 : A4year_t2 → A4year_R) (z : A4year_t2) : A4year_R := A4year_p2 n k0 r2 (A4year_s3 n k0 r2) (A4year_s4 n k0 r2 (A4year_s3 n k0 r2)) (A4year_s5 n k0 r2 (A4year_s3 n k0 r2) (A4year_s4 n k0 r2 (A4year_s3 n k0 r2))) z
theorem A4year_e2 (n : Nat) (k0 : St → A4year_R) (r2 : St → A4year_R) (rc : RC A4year_R) (z : A4year_t2) : codeR rc Tryz.prog A4year_sp n A4year_c7 A4year_a12 (A4year_m2 z) (A4year_K7 r2 k0) = A4year_p2 n (fun y => k0 (A4year_m0 y)) (fun y => r2 (A4year_m2 y)) (fun y => rc A4year_c1 A4year_a1 (A4year_m3 y) (A4year_K1 r2 k0)) (fun y => rc A4year_c5 A4year_a9 (A4year_m4 y) (A4year_K5 (fun st => rc A4year_c1 A4year_a1 st (A4year_K1 r2 k0)) r2 k0)) (fun y => rc A4year_c6 A4year_a10 (A4year_m5 y) (A4year_K6 (fun st => rc A4year_c5 A4year_a9 st (A4year_K5 (fun st => rc A4year_c1 A4year_a1 st (A4year_K1 r2 k0)) r2 k0)) (fun st => rc A4year_c1 A4year_a1 st (A4year_K1 r2 k0)) r2 k0)) z := by kernel_rfl
theorem A4year_q2 (n : Nat) (k0 : St → A4year_R) (r2 : St → A4year_R) (z : A4year_t2) : codeK Tryz.prog A4year_sp n A4year_c7 A4year_a12 (A4year_m2 z) (A4year_K7 r2 k0) = A4year_s2 n (fun y => k0 (A4year_m0 y)) (fun y => r2 (A4year_m2 y)) z := by
  have h3 : (fun y => codeK Tryz.prog A4year_sp n A4year_c1 A4year_a1 (A4year_m3 y) (A4year_K1 r2 k0)) = (A4year_s3 n (fun y => k0 (A4year_m0 y)) (fun y => r2 (A4year_m2 y))) := funext fun y => by
    have := A4year_q3 n k0 r2 y
    exact this
  have h4 : (fun y => codeK Tryz.prog A4year_sp n A4year_c5 A4year_a9 (A4year_m4 y) (A4year_K5 (fun st => codeK Tryz.prog A4year_sp n A4year_c1 A4year_a1 st (A4year_K1 r2 k0)) r2 k0)) = (A4year_s4 n (fun y => k0 (A4year_m0 y)) (fun y => r2 (A4year_m2 y)) (A4year_s3 n (fun y => k0 (A4year_m0 y)) (fun y => r2 (A4year_m2 y)))) := funext fun y => by
    have := A4year_q4 n k0 r2 (fun st => codeK Tryz.prog A4year_sp n A4year_c1 A4year_a1 st (A4year_K1 r2 k0)) y
    rw [h3] at this; exact this
  have h5 : (fun y => codeK Tryz.prog A4year_sp n A4year_c6 A4year_a10 (A4year_m5 y) (A4year_K6 (fun st => codeK Tryz.prog A4year_sp n A4year_c5 A4year_a9 st (A4year_K5 (fun st => codeK Tryz.prog A4year_sp n A4year_c1 A4year_a1 st (A4year_K1 r2 k0)) r2 k0)) (fun st => codeK Tryz.prog A4year_sp n A4year_c1 A4year_a1 st (A4year_K1 r2 k0)) r2 k0)) = (A4year_s5 n (fun y => k0 (A4year_m0 y)) (fun y => r2 (A4year_m2 y)) (A4year_s3 n (fun y => k0 (A4year_m0 y)) (fun y => r2 (A4year_m2 y))) (A4year_s4 n (fun y => k0 (A4year_m0 y)) (fun y => r2 (A4year_m2 y)) (A4year_s3 n (fun y => k0 (A4year_m0 y)) (fun y => r2 (A4year_m2 y))))) := funext fun y => by
    have := A4year_q5 n k0 r2 (fun st => codeK Tryz.prog A4year_sp n A4year_c1 A4year_a1 st (A4year_K1 r2 k0)) (fun st => codeK Tryz.prog A4year_sp n A4year_c5 A4year_a9 st (A4year_K5 (fun st => codeK Tryz.prog A4year_sp n A4year_c1 A4year_a1 st (A4year_K1 r2 k0)) r2 k0)) y
    rw [h3] at this; rw [h4] at this; exact this
  rw [codeK_R, A4year_e2]
  rw [h3]
  rw [h4]
  rw [h5]
  rfl
def A4year_s1 (n : Nat) (k0 : A4year_t0 → A4year_R) (z : A4year_t1) : A4year_R :=
  rounds (fun r2 x' => A4year_s2 n k0 r2 x') n (z.1, z.2.1, z.2.2, ([] : List D_EFire))
theorem A4year_q1 (n : Nat) (k0 : St → A4year_R) (z : A4year_t1) : codeK Tryz.prog A4year_sp n A4year_c8 A4year_a13 (A4year_m1 z) (A4year_K8 k0) = A4year_s1 n (fun y => k0 (A4year_m0 y)) z :=
  Eq.trans (b := rounds (fun r2 st => codeK Tryz.prog A4year_sp n A4year_c7 A4year_a12 st (A4year_K7 r2 k0)) n (A4year_m2 (z.1, z.2.1, z.2.2, ([] : List D_EFire)))) (by kernel_rfl) (rounds_mk A4year_m2 (fun r2 x' => by
    have := (A4year_q2 n k0 r2 x')
    exact this) n _)
def A4year_px (_n : Nat) (k0 : A4year_t0 → A4year_R) (k1 : A4year_t1 → A4year_R) (x : ((List D_api_Rule) × (Int × Unit))) : A4year_R :=
  k1 (x.1, x.2.1, (0 : Int))
def A4year (n : Nat) (x : ((List D_api_Rule) × (Int × Unit))) : A4year_R := A4year_px n (A4year_s0 n) (A4year_s1 n (A4year_s0 n)) x
theorem A4year_ex (n : Nat) (rc : RC A4year_R) (x : ((List D_api_Rule) × (Int × Unit))) : codeR rc Tryz.prog A4year_sp n (bodyOf Tryz.f97) A4year_an (start A4year_ps x (Func.ntmps Tryz.f97)) A4year_K9 = A4year_px n (fun y => rc A4year_c0 A4year_a0 (A4year_m0 y) A4year_K0) (fun y => rc A4year_c8 A4year_a13 (A4year_m1 y) (A4year_K8 (fun st => rc A4year_c0 A4year_a0 st A4year_K0))) x := by kernel_rfl
theorem A4year_qx (n : Nat) (x : ((List D_api_Rule) × (Int × Unit))) : codeK Tryz.prog A4year_sp n (bodyOf Tryz.f97) A4year_an (start A4year_ps x (Func.ntmps Tryz.f97)) A4year_K9 = A4year n x := by
  have h0 : (fun y => codeK Tryz.prog A4year_sp n A4year_c0 A4year_a0 (A4year_m0 y) A4year_K0) = (A4year_s0 n) := funext fun y => by
    have := A4year_q0 n  y
    exact this
  have h1 : (fun y => codeK Tryz.prog A4year_sp n A4year_c8 A4year_a13 (A4year_m1 y) (A4year_K8 (fun st => codeK Tryz.prog A4year_sp n A4year_c0 A4year_a0 st A4year_K0))) = (A4year_s1 n (A4year_s0 n)) := funext fun y => by
    have := A4year_q1 n (fun st => codeK Tryz.prog A4year_sp n A4year_c0 A4year_a0 st A4year_K0) y
    rw [h0] at this; exact this
  rw [codeK_R, A4year_ex]
  rw [h0]
  rw [h1]
  rfl
def A4year_spec : SpO := ⟨A4year_ps, 121, T_EFire, A4year_rr, A4year⟩
theorem A4year_ok : SoundX Tryz.prog CX 97 (.o A4year_spec) := sound_funO (look_cons A3Of_ok (look_cons A4before_ok look_nil)) Tryz.func97 (by kernel_rfl) rfl A4year_an A4year_spec rfl rfl rfl A4year_qx

/-! ### noonmark/noonmarkref14.least -/
abbrev A4least_ps : Ty := (.pair (.list T_api_Rule) .unit)
abbrev A4least_rs : Ty := (.pair (.int .i64) .unit)
def A4least_sp : Specs := look []
def A4least_an : An := (.s .o (.s .o (.k [] [3] 0 (.k [] [0,3,4] 0 .o (.b (.l [] [0,3,4] 0 .o))) .o)))
abbrev A4least_R := Option (Int × Unit)
noncomputable abbrev A4least_c0 : Code := (cr (cr (cr (bodyOf Tryz.f110))))
noncomputable abbrev A4least_c1 : Code := (cl (cl (cr (cl (cr (cr (bodyOf Tryz.f110)))))))
noncomputable abbrev A4least_c2 : Code := (cr (cl (cr (cr (bodyOf Tryz.f110)))))
noncomputable abbrev A4least_a0 : An := A4least_an.right.right.right
noncomputable abbrev A4least_a1 : An := A4least_an.right.right.left.right.left.left
noncomputable abbrev A4least_a2 : An := A4least_an.right.right
noncomputable abbrev A4least_a3 : An := A4least_an.right.right.left.right.left
noncomputable abbrev A4least_a4 : An := A4least_an.right.right.left.right
noncomputable abbrev A4least_K0 (r2 k0 : St → A4least_R) : Ex → St → A4least_R := (kSeq r2 A4least_a3 (kBlk 0 (kSeq k0 A4least_a2 (kFin Tryz.prog A4least_rs Tryz.f110))))
noncomputable abbrev A4least_K1 (k0 : St → A4least_R) : Ex → St → A4least_R := (kSeq k0 A4least_a2 (kFin Tryz.prog A4least_rs Tryz.f110))
abbrev A4least_t0 := Int
def A4least_m0 (z : A4least_t0) : St := ⟨(jk 3 (.v ⟨(.int .i64), z⟩ :: jk 16 [])), []⟩
abbrev A4least_t1 := (List D_api_Rule) × Int × Int
def A4least_m1 (z : A4least_t1) : St := ⟨(.v ⟨(.list T_api_Rule), z.1⟩ :: .junk :: .junk :: .v ⟨(.int .i64), z.2.1⟩ :: .v ⟨(.int .i64), z.2.2⟩ :: jk 15 []), []⟩
abbrev A4least_t2 := (List D_api_Rule) × Int × Int
def A4least_m2 (z : A4least_t2) : St := ⟨(.v ⟨(.list T_api_Rule), z.1⟩ :: .junk :: .junk :: .v ⟨(.int .i64), z.2.1⟩ :: .v ⟨(.int .i64), z.2.2⟩ :: jk 15 []), []⟩
def A4least_p0 (_n : Nat) (z : A4least_t0) : A4least_R :=
  some (z, ())
def A4least_s0 (n : Nat) (z : A4least_t0) : A4least_R := A4least_p0 n z
theorem A4least_e0 (n : Nat) (rc : RC A4least_R) (z : A4least_t0) : codeR rc Tryz.prog A4least_sp n A4least_c0 A4least_a0 (A4least_m0 z) (kFin Tryz.prog A4least_rs Tryz.f110) = A4least_p0 n z := by kernel_rfl
theorem A4least_q0 (n : Nat) (z : A4least_t0) : codeK Tryz.prog A4least_sp n A4least_c0 A4least_a0 (A4least_m0 z) (kFin Tryz.prog A4least_rs Tryz.f110) = A4least_s0 n z := by
  rw [codeK_R, A4least_e0]
  rfl
def A4least_p2 (_n : Nat) (k0 : A4least_t0 → A4least_R) (r2 : A4least_t2 → A4least_R) (z : A4least_t2) : A4least_R :=
  bif (decide (z.2.2 < (List.length z.1 : Int))) then
    bif decide (0 ≤ z.2.2) then
      ((z.1[Int.toNat z.2.2]?)).bind fun e1 =>
      r2 (z.1, (imin z.2.1 (imax e1.2.1 (1 : Int))), (w64 (z.2.2 + 1)))
    else none
  else
    k0 z.2.1
def A4least_s2 (n : Nat) (k0 : A4least_t0 → A4least_R) (r2 : A4least_t2 → A4least_R) (z : A4least_t2) : A4least_R := A4least_p2 n k0 r2 z
theorem A4least_e2 (n : Nat) (k0 : St → A4least_R) (r2 : St → A4least_R) (rc : RC A4least_R) (z : A4least_t2) : codeR rc Tryz.prog A4least_sp n A4least_c1 A4least_a1 (A4least_m2 z) (A4least_K0 r2 k0) = A4least_p2 n (fun y => k0 (A4least_m0 y)) (fun y => r2 (A4least_m2 y)) z := by kernel_rfl
theorem A4least_q2 (n : Nat) (k0 : St → A4least_R) (r2 : St → A4least_R) (z : A4least_t2) : codeK Tryz.prog A4least_sp n A4least_c1 A4least_a1 (A4least_m2 z) (A4least_K0 r2 k0) = A4least_s2 n (fun y => k0 (A4least_m0 y)) (fun y => r2 (A4least_m2 y)) z := by
  rw [codeK_R, A4least_e2]
  rfl
def A4least_s1 (n : Nat) (k0 : A4least_t0 → A4least_R) (z : A4least_t1) : A4least_R :=
  rounds (fun r2 x' => A4least_s2 n k0 r2 x') n (z.1, z.2.1, z.2.2)
theorem A4least_q1 (n : Nat) (k0 : St → A4least_R) (z : A4least_t1) : codeK Tryz.prog A4least_sp n A4least_c2 A4least_a4 (A4least_m1 z) (A4least_K1 k0) = A4least_s1 n (fun y => k0 (A4least_m0 y)) z :=
  Eq.trans (b := rounds (fun r2 st => codeK Tryz.prog A4least_sp n A4least_c1 A4least_a1 st (A4least_K0 r2 k0)) n (A4least_m2 (z.1, z.2.1, z.2.2))) (by kernel_rfl) (rounds_mk A4least_m2 (fun r2 x' => by
    have := (A4least_q2 n k0 r2 x')
    exact this) n _)
def A4least_px (_n : Nat) (k0 : A4least_t0 → A4least_R) (k1 : A4least_t1 → A4least_R) (x : ((List D_api_Rule) × Unit)) : A4least_R :=
  k1 (x.1, (10000 : Int), (0 : Int))
def A4least (n : Nat) (x : ((List D_api_Rule) × Unit)) : A4least_R := A4least_px n (A4least_s0 n) (A4least_s1 n (A4least_s0 n)) x
theorem A4least_ex (n : Nat) (rc : RC A4least_R) (x : ((List D_api_Rule) × Unit)) : codeR rc Tryz.prog A4least_sp n (bodyOf Tryz.f110) A4least_an (start A4least_ps x (Func.ntmps Tryz.f110)) (kFin Tryz.prog A4least_rs Tryz.f110) = A4least_px n (fun y => rc A4least_c0 A4least_a0 (A4least_m0 y) (kFin Tryz.prog A4least_rs Tryz.f110)) (fun y => rc A4least_c2 A4least_a4 (A4least_m1 y) (A4least_K1 (fun st => rc A4least_c0 A4least_a0 st (kFin Tryz.prog A4least_rs Tryz.f110)))) x := by kernel_rfl
theorem A4least_qx (n : Nat) (x : ((List D_api_Rule) × Unit)) : codeK Tryz.prog A4least_sp n (bodyOf Tryz.f110) A4least_an (start A4least_ps x (Func.ntmps Tryz.f110)) (kFin Tryz.prog A4least_rs Tryz.f110) = A4least n x := by
  have h0 : (fun y => codeK Tryz.prog A4least_sp n A4least_c0 A4least_a0 (A4least_m0 y) (kFin Tryz.prog A4least_rs Tryz.f110)) = (A4least_s0 n) := funext fun y => by
    have := A4least_q0 n  y
    exact this
  have h1 : (fun y => codeK Tryz.prog A4least_sp n A4least_c2 A4least_a4 (A4least_m1 y) (A4least_K1 (fun st => codeK Tryz.prog A4least_sp n A4least_c0 A4least_a0 st (kFin Tryz.prog A4least_rs Tryz.f110)))) = (A4least_s1 n (A4least_s0 n)) := funext fun y => by
    have := A4least_q1 n (fun st => codeK Tryz.prog A4least_sp n A4least_c0 A4least_a0 st (kFin Tryz.prog A4least_rs Tryz.f110)) y
    rw [h0] at this; exact this
  rw [codeK_R, A4least_ex]
  rw [h0]
  rw [h1]
  rfl
def A4least_spec : Sp := ⟨A4least_ps, A4least_rs, A4least⟩
theorem A4least_ok : SoundX Tryz.prog CX 110 (.f A4least_spec) := sound_of look_nil Tryz.func110 (by kernel_rfl) rfl A4least_an A4least_spec rfl rfl A4least_qx

/-! ### noonmark/noonmarkref14.ahead -/
abbrev A4ahead_ps : Ty := (.pair (.list T_api_Rule) (.pair (.int .i64) .unit))
abbrev A4ahead_rs : Ty := (.pair (.int .i64) .unit)
def A4ahead_sp : Specs := look [(110, .f A4least_spec), (69, .f A4Span_spec), (97, .o A4year_spec)]
def A4ahead_an : An := (.s .o (.s .o (.k [] [0,1] 0 .o (.k [] [] 0 (.k [] [0,8] 0 .o (.b (.l [] [0,8] 0 .o))) .o))))
abbrev A4ahead_R := Option (Int × Unit)
noncomputable abbrev A4ahead_c0 : Code := (cr (cr (cr (cr (bodyOf Tryz.f109)))))
noncomputable abbrev A4ahead_c1 : Code := (cl (cl (cr (cl (cr (cr (cr (bodyOf Tryz.f109))))))))
noncomputable abbrev A4ahead_c2 : Code := (cr (cl (cr (cr (cr (bodyOf Tryz.f109))))))
noncomputable abbrev A4ahead_c3 : Code := (cr (cr (cr (bodyOf Tryz.f109))))
noncomputable abbrev A4ahead_a0 : An := A4ahead_an.right.right.right.right
noncomputable abbrev A4ahead_a1 : An := A4ahead_an.right.right.right.left.right.left.left
noncomputable abbrev A4ahead_a2 : An := A4ahead_an.right.right.right
noncomputable abbrev A4ahead_a3 : An := A4ahead_an.right.right.right.left.right.left
noncomputable abbrev A4ahead_a4 : An := A4ahead_an.right.right.right.left.right
noncomputable abbrev A4ahead_K0 (r3 k1 : St → A4ahead_R) : Ex → St → A4ahead_R := (kSeq r3 A4ahead_a3 (kBlk 0 (kSeq k1 A4ahead_a2 (kFin Tryz.prog A4ahead_rs Tryz.f109))))
noncomputable abbrev A4ahead_K1 (k1 : St → A4ahead_R) : Ex → St → A4ahead_R := (kSeq k1 A4ahead_a2 (kFin Tryz.prog A4ahead_rs Tryz.f109))
abbrev A4ahead_t0 := (List D_api_Rule) × Int
def A4ahead_m0 (z : A4ahead_t0) : St := ⟨(.v ⟨(.list T_api_Rule), z.1⟩ :: .v ⟨(.int .i64), z.2⟩ :: jk 46 []), []⟩
abbrev A4ahead_t1 := Unit
def A4ahead_m1 (_z : A4ahead_t1) : St := ⟨(jk 48 []), []⟩
abbrev A4ahead_t2 := (List D_api_Rule) × Int
def A4ahead_m2 (z : A4ahead_t2) : St := ⟨(.v ⟨(.list T_api_Rule), z.1⟩ :: jk 7 (.v ⟨(.int .i64), z.2⟩ :: jk 39 [])), []⟩
abbrev A4ahead_t3 := (List D_api_Rule) × Int
def A4ahead_m3 (z : A4ahead_t3) : St := ⟨(.v ⟨(.list T_api_Rule), z.1⟩ :: jk 7 (.v ⟨(.int .i64), z.2⟩ :: jk 39 [])), []⟩
def A4ahead_p1 (_n : Nat) (_z : A4ahead_t1) : A4ahead_R :=
  some ((0 : Int), ())
def A4ahead_s1 (n : Nat) (z : A4ahead_t1) : A4ahead_R := A4ahead_p1 n z
theorem A4ahead_e1 (n : Nat) (rc : RC A4ahead_R) (z : A4ahead_t1) : codeR rc Tryz.prog A4ahead_sp n A4ahead_c0 A4ahead_a0 (A4ahead_m1 z) (kFin Tryz.prog A4ahead_rs Tryz.f109) = A4ahead_p1 n z := by kernel_rfl
theorem A4ahead_q1 (n : Nat) (z : A4ahead_t1) : codeK Tryz.prog A4ahead_sp n A4ahead_c0 A4ahead_a0 (A4ahead_m1 z) (kFin Tryz.prog A4ahead_rs Tryz.f109) = A4ahead_s1 n z := by
  rw [codeK_R, A4ahead_e1]
  rfl
def A4ahead_p3 (n : Nat) (k1 : A4ahead_t1 → A4ahead_R) (r3 : A4ahead_t3 → A4ahead_R) (z : A4ahead_t3) : A4ahead_R :=
  ((A4least n (z.1, ()))).bind fun v6 =>
  bif (decide (z.2 ≥ v6.1)) then
    ((A4year n (z.1, (z.2, ())))).bind fun v7 =>
    bif (decide ((List.length v7.1 : Int) > 0)) then
      let t8 := w64 ((List.length v7.1 : Int) - 1)
      bif decide (0 ≤ t8 ∧ t8 < (List.length v7.1 : Int)) then
        ((v7.1[(Int.toNat t8)]?)).bind fun e10 =>
        bif decide (0 ≤ e10.1) then
          ((z.1[Int.toNat e10.1]?)).bind fun e11 =>
          some (e11.2.2.2.2.2.2.1, ())
        else none
      else none
    else
      r3 (z.1, (w64 (z.2 - 1)))
  else
    k1 ()
def A4ahead_s3 (n : Nat) (k1 : A4ahead_t1 → A4ahead_R) (r3 : A4ahead_t3 → A4ahead_R) (z : A4ahead_t3) : A4ahead_R := A4ahead_p3 n k1 r3 z
theorem A4ahead_e3 (n : Nat) (k1 : St → A4ahead_R) (r3 : St → A4ahead_R) (rc : RC A4ahead_R) (z : A4ahead_t3) : codeR rc Tryz.prog A4ahead_sp n A4ahead_c1 A4ahead_a1 (A4ahead_m3 z) (A4ahead_K0 r3 k1) = A4ahead_p3 n (fun y => k1 (A4ahead_m1 y)) (fun y => r3 (A4ahead_m3 y)) z := by kernel_rfl
theorem A4ahead_q3 (n : Nat) (k1 : St → A4ahead_R) (r3 : St → A4ahead_R) (z : A4ahead_t3) : codeK Tryz.prog A4ahead_sp n A4ahead_c1 A4ahead_a1 (A4ahead_m3 z) (A4ahead_K0 r3 k1) = A4ahead_s3 n (fun y => k1 (A4ahead_m1 y)) (fun y => r3 (A4ahead_m3 y)) z := by
  rw [codeK_R, A4ahead_e3]
  rfl
def A4ahead_s2 (n : Nat) (k1 : A4ahead_t1 → A4ahead_R) (z : A4ahead_t2) : A4ahead_R :=
  rounds (fun r3 x' => A4ahead_s3 n k1 r3 x') n (z.1, z.2)
theorem A4ahead_q2 (n : Nat) (k1 : St → A4ahead_R) (z : A4ahead_t2) : codeK Tryz.prog A4ahead_sp n A4ahead_c2 A4ahead_a4 (A4ahead_m2 z) (A4ahead_K1 k1) = A4ahead_s2 n (fun y => k1 (A4ahead_m1 y)) z :=
  Eq.trans (b := rounds (fun r3 st => codeK Tryz.prog A4ahead_sp n A4ahead_c1 A4ahead_a1 st (A4ahead_K0 r3 k1)) n (A4ahead_m3 (z.1, z.2))) (by kernel_rfl) (rounds_mk A4ahead_m3 (fun r3 x' => by
    have := (A4ahead_q3 n k1 r3 x')
    exact this) n _)
def A4ahead_p0 (_n : Nat) (k1 : A4ahead_t1 → A4ahead_R) (k2 : A4ahead_t2 → A4ahead_R) (z : A4ahead_t0) : A4ahead_R :=
  k2 (z.1, (imin (w64 (z.2 - 1)) (9999 : Int)))
def A4ahead_s0 (n : Nat) (z : A4ahead_t0) : A4ahead_R := A4ahead_p0 n (A4ahead_s1 n) (A4ahead_s2 n (A4ahead_s1 n)) z
theorem A4ahead_e0 (n : Nat) (rc : RC A4ahead_R) (z : A4ahead_t0) : codeR rc Tryz.prog A4ahead_sp n A4ahead_c3 A4ahead_a2 (A4ahead_m0 z) (kFin Tryz.prog A4ahead_rs Tryz.f109) = A4ahead_p0 n (fun y => rc A4ahead_c0 A4ahead_a0 (A4ahead_m1 y) (kFin Tryz.prog A4ahead_rs Tryz.f109)) (fun y => rc A4ahead_c2 A4ahead_a4 (A4ahead_m2 y) (A4ahead_K1 (fun st => rc A4ahead_c0 A4ahead_a0 st (kFin Tryz.prog A4ahead_rs Tryz.f109)))) z := by kernel_rfl
theorem A4ahead_q0 (n : Nat) (z : A4ahead_t0) : codeK Tryz.prog A4ahead_sp n A4ahead_c3 A4ahead_a2 (A4ahead_m0 z) (kFin Tryz.prog A4ahead_rs Tryz.f109) = A4ahead_s0 n z := by
  have h1 : (fun y => codeK Tryz.prog A4ahead_sp n A4ahead_c0 A4ahead_a0 (A4ahead_m1 y) (kFin Tryz.prog A4ahead_rs Tryz.f109)) = (A4ahead_s1 n) := funext fun y => by
    have := A4ahead_q1 n  y
    exact this
  have h2 : (fun y => codeK Tryz.prog A4ahead_sp n A4ahead_c2 A4ahead_a4 (A4ahead_m2 y) (A4ahead_K1 (fun st => codeK Tryz.prog A4ahead_sp n A4ahead_c0 A4ahead_a0 st (kFin Tryz.prog A4ahead_rs Tryz.f109)))) = (A4ahead_s2 n (A4ahead_s1 n)) := funext fun y => by
    have := A4ahead_q2 n (fun st => codeK Tryz.prog A4ahead_sp n A4ahead_c0 A4ahead_a0 st (kFin Tryz.prog A4ahead_rs Tryz.f109)) y
    rw [h1] at this; exact this
  rw [codeK_R, A4ahead_e0]
  rw [h1]
  rw [h2]
  rfl
def A4ahead_px (n : Nat) (k0 : A4ahead_t0 → A4ahead_R) (x : ((List D_api_Rule) × (Int × Unit))) : A4ahead_R :=
  ((A4Span n (x.1, ()))).bind fun v1 =>
  bif (!v1.2.2.1) then
    k0 (x.1, (imin x.2.1 (w64 (v1.2.1 + 1))))
  else
    k0 (x.1, x.2.1)
def A4ahead (n : Nat) (x : ((List D_api_Rule) × (Int × Unit))) : A4ahead_R := A4ahead_px n (A4ahead_s0 n) x
theorem A4ahead_ex (n : Nat) (rc : RC A4ahead_R) (x : ((List D_api_Rule) × (Int × Unit))) : codeR rc Tryz.prog A4ahead_sp n (bodyOf Tryz.f109) A4ahead_an (start A4ahead_ps x (Func.ntmps Tryz.f109)) (kFin Tryz.prog A4ahead_rs Tryz.f109) = A4ahead_px n (fun y => rc A4ahead_c3 A4ahead_a2 (A4ahead_m0 y) (kFin Tryz.prog A4ahead_rs Tryz.f109)) x := by kernel_rfl
theorem A4ahead_qx (n : Nat) (x : ((List D_api_Rule) × (Int × Unit))) : codeK Tryz.prog A4ahead_sp n (bodyOf Tryz.f109) A4ahead_an (start A4ahead_ps x (Func.ntmps Tryz.f109)) (kFin Tryz.prog A4ahead_rs Tryz.f109) = A4ahead n x := by
  have h0 : (fun y => codeK Tryz.prog A4ahead_sp n A4ahead_c3 A4ahead_a2 (A4ahead_m0 y) (kFin Tryz.prog A4ahead_rs Tryz.f109)) = (A4ahead_s0 n) := funext fun y => by
    have := A4ahead_q0 n  y
    exact this
  rw [codeK_R, A4ahead_ex]
  rw [h0]
  rfl
def A4ahead_spec : Sp := ⟨A4ahead_ps, A4ahead_rs, A4ahead⟩
theorem A4ahead_ok : SoundX Tryz.prog CX 109 (.f A4ahead_spec) := sound_of (look_cons A4least_ok (look_cons A4Span_ok (look_cons A4year_ok look_nil))) Tryz.func109 (by kernel_rfl) rfl A4ahead_an A4ahead_spec rfl rfl A4ahead_qx

/-! ### noonmark/noonmarkref14.From -/
abbrev A4From_ps : Ty := (.pair (.list T_api_Rule) T_api_At)
abbrev A4From_rs : Ty := (.pair (.list T_EFire) .unit)
abbrev A4From_rr : Ty := .unit
def A4From_sp : Specs := look [(109, .f A4ahead_spec), (110, .f A4least_spec), (97, .o A4year_spec)]
def A4From_an : An := (.s .o (.s .o (.s .o (.s .o (.s .o (.k [] [8] 1 (.k [] [0,2,7,8,9] 0 .o (.b (.l [(8, (.sl 0 T_EFire), 121)] [0,2,7,8,9] 1 (.s .o (.k [] [0,2,7,8,9] 1 (.b (.s .o (.k [] [0,2,7,8,9,10] 2 (.k [] [0,2,7,8,9,10,11] 2 .o (.b (.l [] [0,2,7,8,9,10,11] 2 .o))) .o))) .o))))) .o))))))
abbrev A4From_R := Option ((List D_EFire) × Unit)
noncomputable abbrev A4From_c0 : Code := (cr (cr (cr (cr (cr (cr (bodyOf Tryz.f96)))))))
noncomputable abbrev A4From_c1 : Code := (cr (cr (cl (cl (cr (cl (cr (cr (cr (cr (cr (bodyOf Tryz.f96))))))))))))
noncomputable abbrev A4From_c2 : Code := (cr (cr (cl (cl (cr (cl (cl (cr (cl (cr (cr (cr (cr (cr (bodyOf Tryz.f96)))))))))))))))
noncomputable abbrev A4From_c3 : Code := (cl (cl (cr (cl (cr (cl (cl (cr (cl (cl (cr (cl (cr (cr (cr (cr (cr (bodyOf Tryz.f96))))))))))))))))))
noncomputable abbrev A4From_c4 : Code := (cr (cl (cr (cl (cl (cr (cl (cl (cr (cl (cr (cr (cr (cr (cr (bodyOf Tryz.f96))))))))))))))))
noncomputable abbrev A4From_c5 : Code := (cl (cl (cr (cl (cr (cr (cr (cr (cr (bodyOf Tryz.f96))))))))))
noncomputable abbrev A4From_c6 : Code := (cr (cl (cr (cr (cr (cr (cr (bodyOf Tryz.f96))))))))
noncomputable abbrev A4From_a0 : An := A4From_an.right.right.right.right.right.right
noncomputable abbrev A4From_a1 : An := A4From_an.right.right.right.right.right.left.right.left.left.right.right
noncomputable abbrev A4From_a2 : An := A4From_an.right.right.right.right.right
noncomputable abbrev A4From_a3 : An := A4From_an.right.right.right.right.right.left.right.left
noncomputable abbrev A4From_a4 : An := A4From_an.right.right.right.right.right.left.right.left.left.right.left.left.right.right
noncomputable abbrev A4From_a5 : An := A4From_an.right.right.right.right.right.left.right.left.left.right
noncomputable abbrev A4From_a6 : An := A4From_an.right.right.right.right.right.left.right.left.left.right.left.left.right.left.right.left.left
noncomputable abbrev A4From_a7 : An := A4From_an.right.right.right.right.right.left.right.left.left.right.left.left.right
noncomputable abbrev A4From_a8 : An := A4From_an.right.right.right.right.right.left.right.left.left.right.left.left.right.left.right.left
noncomputable abbrev A4From_a9 : An := A4From_an.right.right.right.right.right.left.right.left.left.right.left.left.right.left.right
noncomputable abbrev A4From_a10 : An := A4From_an.right.right.right.right.right.left.right.left.left
noncomputable abbrev A4From_a11 : An := A4From_an.right.right.right.right.right.left.right
noncomputable abbrev A4From_K0 : Ex → St → A4From_R := (kFinO Tryz.prog 121 T_EFire A4From_rr Tryz.f96)
noncomputable abbrev A4From_K1 (r2 k0 : St → A4From_R) : Ex → St → A4From_R := (kSeq r2 A4From_a3 (kBlk 0 (kSeq k0 A4From_a2 (kFinO Tryz.prog 121 T_EFire A4From_rr Tryz.f96))))
noncomputable abbrev A4From_K2 (k3 r2 k0 : St → A4From_R) : Ex → St → A4From_R := (kBlk 1 (kSeq k3 A4From_a5 (kSeq r2 A4From_a3 (kBlk 0 (kSeq k0 A4From_a2 (kFinO Tryz.prog 121 T_EFire A4From_rr Tryz.f96))))))
noncomputable abbrev A4From_K3 (r6 k4 k3 r2 k0 : St → A4From_R) : Ex → St → A4From_R := (kSeq r6 A4From_a8 (kBlk 2 (kSeq k4 A4From_a7 (kBlk 1 (kSeq k3 A4From_a5 (kSeq r2 A4From_a3 (kBlk 0 (kSeq k0 A4From_a2 (kFinO Tryz.prog 121 T_EFire A4From_rr Tryz.f96)))))))))
noncomputable abbrev A4From_K4 (k4 k3 r2 k0 : St → A4From_R) : Ex → St → A4From_R := (kSeq k4 A4From_a7 (kBlk 1 (kSeq k3 A4From_a5 (kSeq r2 A4From_a3 (kBlk 0 (kSeq k0 A4From_a2 (kFinO Tryz.prog 121 T_EFire A4From_rr Tryz.f96)))))))
noncomputable abbrev A4From_K5 (r2 k0 : St → A4From_R) : Ex → St → A4From_R := (kSeq r2 A4From_a3 (kBlk 0 (kSeq k0 A4From_a2 (kFinO Tryz.prog 121 T_EFire A4From_rr Tryz.f96))))
noncomputable abbrev A4From_K6 (k0 : St → A4From_R) : Ex → St → A4From_R := (kSeq k0 A4From_a2 (kFinO Tryz.prog 121 T_EFire A4From_rr Tryz.f96))
noncomputable abbrev A4From_K7 : Ex → St → A4From_R := (kFinO Tryz.prog 121 T_EFire A4From_rr Tryz.f96)
abbrev A4From_t0 := (List D_EFire)
def A4From_m0 (z : A4From_t0) : St := ⟨(jk 8 (.v ⟨(.sl 0 T_EFire), ()⟩ :: jk 46 [])), [some (.arr 121 T_EFire z)]⟩
abbrev A4From_t1 := (List D_api_Rule) × Int × Int × Int
def A4From_m1 (z : A4From_t1) : St := ⟨(.v ⟨(.list T_api_Rule), z.1⟩ :: .junk :: .v ⟨(.int .i64), z.2.1⟩ :: jk 4 (.v ⟨(.int .i64), z.2.2.1⟩ :: .v ⟨(.nl T_EFire), ()⟩ :: .v ⟨(.int .i64), z.2.2.2⟩ :: jk 45 [])), []⟩
abbrev A4From_t2 := (List D_api_Rule) × Int × Int × Int × (List D_EFire)
def A4From_m2 (z : A4From_t2) : St := ⟨(.v ⟨(.list T_api_Rule), z.1⟩ :: .junk :: .v ⟨(.int .i64), z.2.1⟩ :: jk 4 (.v ⟨(.int .i64), z.2.2.1⟩ :: .v ⟨(.sl 0 T_EFire), ()⟩ :: .v ⟨(.int .i64), z.2.2.2.1⟩ :: jk 45 [])), [some (.arr 121 T_EFire z.2.2.2.2)]⟩
abbrev A4From_t3 := (List D_api_Rule) × Int × Int × Int × (List D_EFire)
def A4From_m3 (z : A4From_t3) : St := ⟨(.v ⟨(.list T_api_Rule), z.1⟩ :: .junk :: .v ⟨(.int .i64), z.2.1⟩ :: jk 4 (.v ⟨(.int .i64), z.2.2.1⟩ :: .v ⟨(.sl 0 T_EFire), ()⟩ :: .v ⟨(.int .i64), z.2.2.2.1⟩ :: jk 45 [])), [some (.arr 121 T_EFire z.2.2.2.2)]⟩
abbrev A4From_t4 := (List D_api_Rule) × Int × Int × Int × (List D_EFire) × (List D_EFire)
def A4From_m4 (z : A4From_t4) : St := ⟨(.v ⟨(.list T_api_Rule), z.1⟩ :: .junk :: .v ⟨(.int .i64), z.2.1⟩ :: jk 4 (.v ⟨(.int .i64), z.2.2.1⟩ :: .v ⟨(.sl 0 T_EFire), ()⟩ :: .v ⟨(.int .i64), z.2.2.2.1⟩ :: .v ⟨(.sl 1 T_EFire), ()⟩ :: jk 44 [])), [some (.arr 121 T_EFire z.2.2.2.2.1), some (.arr 121 T_EFire z.2.2.2.2.2)]⟩
abbrev A4From_t5 := (List D_api_Rule) × Int × Int × Int × Int × (List D_EFire) × (List D_EFire)
def A4From_m5 (z : A4From_t5) : St := ⟨(.v ⟨(.list T_api_Rule), z.1⟩ :: .junk :: .v ⟨(.int .i64), z.2.1⟩ :: jk 4 (.v ⟨(.int .i64), z.2.2.1⟩ :: .v ⟨(.sl 0 T_EFire), ()⟩ :: .v ⟨(.int .i64), z.2.2.2.1⟩ :: .v ⟨(.sl 1 T_EFire), ()⟩ :: .v ⟨(.int .i64), z.2.2.2.2.1⟩ :: jk 43 [])), [some (.arr 121 T_EFire z.2.2.2.2.2.1), some (.arr 121 T_EFire z.2.2.2.2.2.2)]⟩
abbrev A4From_t6 := (List D_api_Rule) × Int × Int × Int × Int × (List D_EFire) × (List D_EFire)
def A4From_m6 (z : A4From_t6) : St := ⟨(.v ⟨(.list T_api_Rule), z.1⟩ :: .junk :: .v ⟨(.int .i64), z.2.1⟩ :: jk 4 (.v ⟨(.int .i64), z.2.2.1⟩ :: .v ⟨(.sl 0 T_EFire), ()⟩ :: .v ⟨(.int .i64), z.2.2.2.1⟩ :: .v ⟨(.sl 1 T_EFire), ()⟩ :: .v ⟨(.int .i64), z.2.2.2.2.1⟩ :: jk 43 [])), [some (.arr 121 T_EFire z.2.2.2.2.2.1), some (.arr 121 T_EFire z.2.2.2.2.2.2)]⟩
def A4From_p0 (_n : Nat) (z : A4From_t0) : A4From_R :=
  some (z, ())
def A4From_s0 (n : Nat) (z : A4From_t0) : A4From_R := A4From_p0 n z
theorem A4From_e0 (n : Nat) (rc : RC A4From_R) (z : A4From_t0) : codeR rc Tryz.prog A4From_sp n A4From_c0 A4From_a0 (A4From_m0 z) A4From_K0 = A4From_p0 n z := by kernel_rfl
theorem A4From_q0 (n : Nat) (z : A4From_t0) : codeK Tryz.prog A4From_sp n A4From_c0 A4From_a0 (A4From_m0 z) A4From_K0 = A4From_s0 n z := by
  rw [codeK_R, A4From_e0]
  rfl
def A4From_p3 (_n : Nat) (_k0 : A4From_t0 → A4From_R) (r2 : A4From_t2 → A4From_R) (z : A4From_t3) : A4From_R :=
  r2 (z.1, z.2.1, z.2.2.1, (w64 (z.2.2.2.1 + 1)), z.2.2.2.2)
def A4From_s3 (n : Nat) (k0 : A4From_t0 → A4From_R) (r2 : A4From_t2 → A4From_R) (z : A4From_t3) : A4From_R := A4From_p3 n k0 r2 z
theorem A4From_e3 (n : Nat) (k0 : St → A4From_R) (r2 : St → A4From_R) (rc : RC A4From_R) (z : A4From_t3) : codeR rc Tryz.prog A4From_sp n A4From_c1 A4From_a1 (A4From_m3 z) (A4From_K1 r2 k0) = A4From_p3 n (fun y => k0 (A4From_m0 y)) (fun y => r2 (A4From_m2 y)) z := by kernel_rfl
theorem A4From_q3 (n : Nat) (k0 : St → A4From_R) (r2 : St → A4From_R) (z : A4From_t3) : codeK Tryz.prog A4From_sp n A4From_c1 A4From_a1 (A4From_m3 z) (A4From_K1 r2 k0) = A4From_s3 n (fun y => k0 (A4From_m0 y)) (fun y => r2 (A4From_m2 y)) z := by
  rw [codeK_R, A4From_e3]
  rfl
def A4From_p4 (_n : Nat) (_k0 : A4From_t0 → A4From_R) (_r2 : A4From_t2 → A4From_R) (k3 : A4From_t3 → A4From_R) (z : A4From_t4) : A4From_R :=
  bif decide ((List.length z.2.2.2.2.1 + List.length z.2.2.2.2.2) * (32 + 1) ≤ 140737488355328) then
    k3 (z.1, z.2.1, z.2.2.1, z.2.2.2.1, (z.2.2.2.2.1 ++ z.2.2.2.2.2))
  else none
def A4From_s4 (n : Nat) (k0 : A4From_t0 → A4From_R) (r2 : A4From_t2 → A4From_R) (k3 : A4From_t3 → A4From_R) (z : A4From_t4) : A4From_R := A4From_p4 n k0 r2 k3 z
theorem A4From_e4 (n : Nat) (k0 : St → A4From_R) (r2 : St → A4From_R) (k3 : St → A4From_R) (rc : RC A4From_R) (z : A4From_t4) : codeR rc Tryz.prog A4From_sp n A4From_c2 A4From_a4 (A4From_m4 z) (A4From_K2 k3 r2 k0) = A4From_p4 n (fun y => k0 (A4From_m0 y)) (fun y => r2 (A4From_m2 y)) (fun y => k3 (A4From_m3 y)) z := by kernel_rfl
theorem A4From_q4 (n : Nat) (k0 : St → A4From_R) (r2 : St → A4From_R) (k3 : St → A4From_R) (z : A4From_t4) : codeK Tryz.prog A4From_sp n A4From_c2 A4From_a4 (A4From_m4 z) (A4From_K2 k3 r2 k0) = A4From_s4 n (fun y => k0 (A4From_m0 y)) (fun y => r2 (A4From_m2 y)) (fun y => k3 (A4From_m3 y)) z := by
  rw [codeK_R, A4From_e4]
  rfl
def A4From_p6 (_n : Nat) (_k0 : A4From_t0 → A4From_R) (_r2 : A4From_t2 → A4From_R) (_k3 : A4From_t3 → A4From_R) (k4 : A4From_t4 → A4From_R) (r6 : A4From_t6 → A4From_R) (z : A4From_t6) : A4From_R :=
  bif (decide (z.2.2.2.2.1 < (List.length z.2.2.2.2.2.2 : Int))) then
    bif decide (0 ≤ z.2.2.2.2.1 ∧ z.2.2.2.2.1 < (List.length z.2.2.2.2.2.2 : Int)) then
      ((z.2.2.2.2.2.2[(Int.toNat z.2.2.2.2.1)]?)).bind fun e8 =>
      let l9 := List.set z.2.2.2.2.2.2 (Int.toNat z.2.2.2.2.1) (e8.1, (e8.2.1, (e8.2.2.1, (z.2.2.1, e8.2.2.2.2))))
      bif decide (0 ≤ z.2.2.2.2.1 ∧ z.2.2.2.2.1 < (List.length l9 : Int)) then
        ((l9[(Int.toNat z.2.2.2.2.1)]?)).bind fun e11 =>
        bif decide (0 ≤ e11.1) then
          ((z.1[Int.toNat e11.1]?)).bind fun e12 =>
          r6 (z.1, z.2.1, e12.2.2.2.2.2.2.1, z.2.2.2.1, (w64 (z.2.2.2.2.1 + 1)), z.2.2.2.2.2.1, l9)
        else none
      else none
    else none
  else
    k4 (z.1, z.2.1, z.2.2.1, z.2.2.2.1, z.2.2.2.2.2.1, z.2.2.2.2.2.2)
def A4From_s6 (n : Nat) (k0 : A4From_t0 → A4From_R) (r2 : A4From_t2 → A4From_R) (k3 : A4From_t3 → A4From_R) (k4 : A4From_t4 → A4From_R) (r6 : A4From_t6 → A4From_R) (z : A4From_t6) : A4From_R := A4From_p6 n k0 r2 k3 k4 r6 z
theorem A4From_e6 (n : Nat) (k0 : St → A4From_R) (r2 : St → A4From_R) (k3 : St → A4From_R) (k4 : St → A4From_R) (r6 : St → A4From_R) (rc : RC A4From_R) (z : A4From_t6) : codeR rc Tryz.prog A4From_sp n A4From_c3 A4From_a6 (A4From_m6 z) (A4From_K3 r6 k4 k3 r2 k0) = A4From_p6 n (fun y => k0 (A4From_m0 y)) (fun y => r2 (A4From_m2 y)) (fun y => k3 (A4From_m3 y)) (fun y => k4 (A4From_m4 y)) (fun y => r6 (A4From_m6 y)) z := by kernel_rfl
theorem A4From_q6 (n : Nat) (k0 : St → A4From_R) (r2 : St → A4From_R) (k3 : St → A4From_R) (k4 : St → A4From_R) (r6 : St → A4From_R) (z : A4From_t6) : codeK Tryz.prog A4From_sp n A4From_c3 A4From_a6 (A4From_m6 z) (A4From_K3 r6 k4 k3 r2 k0) = A4From_s6 n (fun y => k0 (A4From_m0 y)) (fun y => r2 (A4From_m2 y)) (fun y => k3 (A4From_m3 y)) (fun y => k4 (A4From_m4 y)) (fun y => r6 (A4From_m6 y)) z := by
  rw [codeK_R, A4From_e6]
  rfl
def A4From_s5 (n : Nat) (k0 : A4From_t0 → A4From_R) (r2 : A4From_t2 → A4From_R) (k3 : A4From_t3 → A4From_R) (k4 : A4From_t4 → A4From_R) (z : A4From_t5) : A4From_R :=
  rounds (fun r6 x' => A4From_s6 n k0 r2 k3 k4 r6 x') n (z.1, z.2.1, z.2.2.1, z.2.2.2.1, z.2.2.2.2.1, z.2.2.2.2.2.1, z.2.2.2.2.2.2)
theorem A4From_q5 (n : Nat) (k0 : St → A4From_R) (r2 : St → A4From_R) (k3 : St → A4From_R) (k4 : St → A4From_R) (z : A4From_t5) : codeK Tryz.prog A4From_sp n A4From_c4 A4From_a9 (A4From_m5 z) (A4From_K4 k4 k3 r2 k0) = A4From_s5 n (fun y => k0 (A4From_m0 y)) (fun y => r2 (A4From_m2 y)) (fun y => k3 (A4From_m3 y)) (fun y => k4 (A4From_m4 y)) z :=
  Eq.trans (b := rounds (fun r6 st => codeK Tryz.prog A4From_sp n A4From_c3 A4From_a6 st (A4From_K3 r6 k4 k3 r2 k0)) n (A4From_m6 (z.1, z.2.1, z.2.2.1, z.2.2.2.1, z.2.2.2.2.1, z.2.2.2.2.2.1, z.2.2.2.2.2.2))) (by kernel_rfl) (rounds_mk A4From_m6 (fun r6 x' => by
    have := (A4From_q6 n k0 r2 k3 k4 r6 x')
    exact this) n _)
def A4From_p2 (n : Nat) (k0 : A4From_t0 → A4From_R) (_r2 : A4From_t2 → A4From_R) (k3 : A4From_t3 → A4From_R) (k4 : A4From_t4 → A4From_R) (k5 : A4From_t5 → A4From_R) (z : A4From_t2) : A4From_R :=
  bif (decide (z.2.2.2.1 ≤ z.2.1)) then
    ((A4year n (z.1, (z.2.2.2.1, ())))).bind fun v6 =>
    k5 (z.1, z.2.1, z.2.2.1, z.2.2.2.1, (0 : Int), z.2.2.2.2, v6.1)
  else
    k0 z.2.2.2.2
def A4From_s2 (n : Nat) (k0 : A4From_t0 → A4From_R) (r2 : A4From_t2 → A4From_R) (z : A4From_t2) : A4From_R := A4From_p2 n k0 r2 (A4From_s3 n k0 r2) (A4From_s4 n k0 r2 (A4From_s3 n k0 r2)) (A4From_s5 n k0 r2 (A4From_s3 n k0 r2) (A4From_s4 n k0 r2 (A4From_s3 n k0 r2))) z
theorem A4From_e2 (n : Nat) (k0 : St → A4From_R) (r2 : St → A4From_R) (rc : RC A4From_R) (z : A4From_t2) : codeR rc Tryz.prog A4From_sp n A4From_c5 A4From_a10 (A4From_m2 z) (A4From_K5 r2 k0) = A4From_p2 n (fun y => k0 (A4From_m0 y)) (fun y => r2 (A4From_m2 y)) (fun y => rc A4From_c1 A4From_a1 (A4From_m3 y) (A4From_K1 r2 k0)) (fun y => rc A4From_c2 A4From_a4 (A4From_m4 y) (A4From_K2 (fun st => rc A4From_c1 A4From_a1 st (A4From_K1 r2 k0)) r2 k0)) (fun y => rc A4From_c4 A4From_a9 (A4From_m5 y) (A4From_K4 (fun st => rc A4From_c2 A4From_a4 st (A4From_K2 (fun st => rc A4From_c1 A4From_a1 st (A4From_K1 r2 k0)) r2 k0)) (fun st => rc A4From_c1 A4From_a1 st (A4From_K1 r2 k0)) r2 k0)) z := by kernel_rfl
theorem A4From_q2 (n : Nat) (k0 : St → A4From_R) (r2 : St → A4From_R) (z : A4From_t2) : codeK Tryz.prog A4From_sp n A4From_c5 A4From_a10 (A4From_m2 z) (A4From_K5 r2 k0) = A4From_s2 n (fun y => k0 (A4From_m0 y)) (fun y => r2 (A4From_m2 y)) z := by
  have h3 : (fun y => codeK Tryz.prog A4From_sp n A4From_c1 A4From_a1 (A4From_m3 y) (A4From_K1 r2 k0)) = (A4From_s3 n (fun y => k0 (A4From_m0 y)) (fun y => r2 (A4From_m2 y))) := funext fun y => by
    have := A4From_q3 n k0 r2 y
    exact this
  have h4 : (fun y => codeK Tryz.prog A4From_sp n A4From_c2 A4From_a4 (A4From_m4 y) (A4From_K2 (fun st => codeK Tryz.prog A4From_sp n A4From_c1 A4From_a1 st (A4From_K1 r2 k0)) r2 k0)) = (A4From_s4 n (fun y => k0 (A4From_m0 y)) (fun y => r2 (A4From_m2 y)) (A4From_s3 n (fun y => k0 (A4From_m0 y)) (fun y => r2 (A4From_m2 y)))) := funext fun y => by
    have := A4From_q4 n k0 r2 (fun st => codeK Tryz.prog A4From_sp n A4From_c1 A4From_a1 st (A4From_K1 r2 k0)) y
    rw [h3] at this; exact this
  have h5 : (fun y => codeK Tryz.prog A4From_sp n A4From_c4 A4From_a9 (A4From_m5 y) (A4From_K4 (fun st => codeK Tryz.prog A4From_sp n A4From_c2 A4From_a4 st (A4From_K2 (fun st => codeK Tryz.prog A4From_sp n A4From_c1 A4From_a1 st (A4From_K1 r2 k0)) r2 k0)) (fun st => codeK Tryz.prog A4From_sp n A4From_c1 A4From_a1 st (A4From_K1 r2 k0)) r2 k0)) = (A4From_s5 n (fun y => k0 (A4From_m0 y)) (fun y => r2 (A4From_m2 y)) (A4From_s3 n (fun y => k0 (A4From_m0 y)) (fun y => r2 (A4From_m2 y))) (A4From_s4 n (fun y => k0 (A4From_m0 y)) (fun y => r2 (A4From_m2 y)) (A4From_s3 n (fun y => k0 (A4From_m0 y)) (fun y => r2 (A4From_m2 y))))) := funext fun y => by
    have := A4From_q5 n k0 r2 (fun st => codeK Tryz.prog A4From_sp n A4From_c1 A4From_a1 st (A4From_K1 r2 k0)) (fun st => codeK Tryz.prog A4From_sp n A4From_c2 A4From_a4 st (A4From_K2 (fun st => codeK Tryz.prog A4From_sp n A4From_c1 A4From_a1 st (A4From_K1 r2 k0)) r2 k0)) y
    rw [h3] at this; rw [h4] at this; exact this
  rw [codeK_R, A4From_e2]
  rw [h3]
  rw [h4]
  rw [h5]
  rfl
def A4From_s1 (n : Nat) (k0 : A4From_t0 → A4From_R) (z : A4From_t1) : A4From_R :=
  rounds (fun r2 x' => A4From_s2 n k0 r2 x') n (z.1, z.2.1, z.2.2.1, z.2.2.2, ([] : List D_EFire))
theorem A4From_q1 (n : Nat) (k0 : St → A4From_R) (z : A4From_t1) : codeK Tryz.prog A4From_sp n A4From_c6 A4From_a11 (A4From_m1 z) (A4From_K6 k0) = A4From_s1 n (fun y => k0 (A4From_m0 y)) z :=
  Eq.trans (b := rounds (fun r2 st => codeK Tryz.prog A4From_sp n A4From_c5 A4From_a10 st (A4From_K5 r2 k0)) n (A4From_m2 (z.1, z.2.1, z.2.2.1, z.2.2.2, ([] : List D_EFire)))) (by kernel_rfl) (rounds_mk A4From_m2 (fun r2 x' => by
    have := (A4From_q2 n k0 r2 x')
    exact this) n _)
def A4From_px (n : Nat) (k0 : A4From_t0 → A4From_R) (k1 : A4From_t1 → A4From_R) (x : ((List D_api_Rule) × D_api_At)) : A4From_R :=
  let t1 := imax x.2.1 (1 : Int)
  ((A4ahead n (x.1, (t1, ())))).bind fun v3 =>
  ((A4least n (x.1, ()))).bind fun v4 =>
  k1 (x.1, (imin x.2.2.1 (9999 : Int)), v3.1, (imax t1 v4.1))
def A4From (n : Nat) (x : ((List D_api_Rule) × D_api_At)) : A4From_R := A4From_px n (A4From_s0 n) (A4From_s1 n (A4From_s0 n)) x
theorem A4From_ex (n : Nat) (rc : RC A4From_R) (x : ((List D_api_Rule) × D_api_At)) : codeR rc Tryz.prog A4From_sp n (bodyOf Tryz.f96) A4From_an (start A4From_ps x (Func.ntmps Tryz.f96)) A4From_K7 = A4From_px n (fun y => rc A4From_c0 A4From_a0 (A4From_m0 y) A4From_K0) (fun y => rc A4From_c6 A4From_a11 (A4From_m1 y) (A4From_K6 (fun st => rc A4From_c0 A4From_a0 st A4From_K0))) x := by kernel_rfl
theorem A4From_qx (n : Nat) (x : ((List D_api_Rule) × D_api_At)) : codeK Tryz.prog A4From_sp n (bodyOf Tryz.f96) A4From_an (start A4From_ps x (Func.ntmps Tryz.f96)) A4From_K7 = A4From n x := by
  have h0 : (fun y => codeK Tryz.prog A4From_sp n A4From_c0 A4From_a0 (A4From_m0 y) A4From_K0) = (A4From_s0 n) := funext fun y => by
    have := A4From_q0 n  y
    exact this
  have h1 : (fun y => codeK Tryz.prog A4From_sp n A4From_c6 A4From_a11 (A4From_m1 y) (A4From_K6 (fun st => codeK Tryz.prog A4From_sp n A4From_c0 A4From_a0 st A4From_K0))) = (A4From_s1 n (A4From_s0 n)) := funext fun y => by
    have := A4From_q1 n (fun st => codeK Tryz.prog A4From_sp n A4From_c0 A4From_a0 st A4From_K0) y
    rw [h0] at this; exact this
  rw [codeK_R, A4From_ex]
  rw [h0]
  rw [h1]
  rfl
def A4From_spec : SpO := ⟨A4From_ps, 121, T_EFire, A4From_rr, A4From⟩
theorem A4From_ok : SoundX Tryz.prog CX 96 (.o A4From_spec) := sound_funO (look_cons A4ahead_ok (look_cons A4least_ok (look_cons A4year_ok look_nil))) Tryz.func96 (by kernel_rfl) rfl A4From_an A4From_spec rfl rfl rfl A4From_qx

/-! ### noonmark/noonmarkref14.Year -/
abbrev A4Year_ps : Ty := (.pair (.list T_api_Rule) (.pair (.int .i64) .unit))
abbrev A4Year_rs : Ty := (.pair (.list T_EFire) .unit)
abbrev A4Year_rr : Ty := .unit
def A4Year_sp : Specs := look [(96, .o A4From_spec)]
def A4Year_an : An := .o
abbrev A4Year_R := Option ((List D_EFire) × Unit)
noncomputable abbrev A4Year_K0 : Ex → St → A4Year_R := (kFinO Tryz.prog 121 T_EFire A4Year_rr Tryz.f70)
def A4Year_px (n : Nat) (x : ((List D_api_Rule) × (Int × Unit))) : A4Year_R :=
  ((A4From n (x.1, (x.2.1, (x.2.1, ()))))).bind fun v1 =>
  some (v1.1, ())
def A4Year (n : Nat) (x : ((List D_api_Rule) × (Int × Unit))) : A4Year_R := A4Year_px n x
theorem A4Year_ex (n : Nat) (rc : RC A4Year_R) (x : ((List D_api_Rule) × (Int × Unit))) : codeR rc Tryz.prog A4Year_sp n (bodyOf Tryz.f70) A4Year_an (start A4Year_ps x (Func.ntmps Tryz.f70)) A4Year_K0 = A4Year_px n x := by kernel_rfl
theorem A4Year_qx (n : Nat) (x : ((List D_api_Rule) × (Int × Unit))) : codeK Tryz.prog A4Year_sp n (bodyOf Tryz.f70) A4Year_an (start A4Year_ps x (Func.ntmps Tryz.f70)) A4Year_K0 = A4Year n x := by
  rw [codeK_R, A4Year_ex]
  rfl
def A4Year_spec : SpO := ⟨A4Year_ps, 121, T_EFire, A4Year_rr, A4Year⟩
theorem A4Year_ok : SoundX Tryz.prog CX 70 (.o A4Year_spec) := sound_funO (look_cons A4From_ok look_nil) Tryz.func70 (by kernel_rfl) rfl A4Year_an A4Year_spec rfl rfl rfl A4Year_qx

/-! ### noonmark/noonmarkref14.Letter -/
abbrev A4Letter_ps : Ty := (.pair (.list T_api_Rule) .unit)
abbrev A4Letter_rs : Ty := (.pair .str .unit)
def A4Letter_sp : Specs := look [(97, .o A4year_spec), (98, .f A4before_spec)]
def A4Letter_an : An := (.s .o (.s .o (.s .o (.s .o (.k [] [3] 0 (.k [] [0,3,4,5,6] 1 .o (.b (.l [] [0,3,4,5,6] 1 (.s .o (.k [] [0,3,4,5,6] 1 (.b (.s .o (.s .o (.k [] [0,3,4,5,6,7,8] 2 .o (.b (.l [(7, (.list T_api_Rule), 0)] [0,3,4,5,6,7,8] 1 (.s .o (.k [] [0,3,4,5,6,7,8] 1 (.b (.s .o (.s .o (.s .o (.s (.k [] [0,3,4,5,6,9,91] 2 .o .o) .o))))) .o)))))))) .o))))) .o)))))
abbrev A4Letter_R := Option (ByteArray × Unit)
noncomputable abbrev A4Letter_c0 : Code := (cr (cr (cr (cr (cr (bodyOf Tryz.f72))))))
noncomputable abbrev A4Letter_c1 : Code := (cr (cr (cl (cl (cr (cl (cr (cr (cr (cr (bodyOf Tryz.f72)))))))))))
noncomputable abbrev A4Letter_c2 : Code := (cr (cr (cl (cl (cr (cr (cr (cl (cl (cr (cl (cl (cr (cl (cr (cr (cr (cr (bodyOf Tryz.f72)))))))))))))))))))
noncomputable abbrev A4Letter_c3 : Code := (cr (cl (cr (cr (cr (cl (cl (cr (cl (cl (cr (cr (cr (cl (cl (cr (cl (cl (cr (cl (cr (cr (cr (cr (bodyOf Tryz.f72)))))))))))))))))))))))))
noncomputable abbrev A4Letter_c4 : Code := (cr (cr (cr (cr (cl (cl (cr (cl (cl (cr (cr (cr (cl (cl (cr (cl (cl (cr (cl (cr (cr (cr (cr (bodyOf Tryz.f72))))))))))))))))))))))))
noncomputable abbrev A4Letter_c5 : Code := (cl (cl (cr (cr (cr (cl (cl (cr (cl (cl (cr (cl (cr (cr (cr (cr (bodyOf Tryz.f72)))))))))))))))))
noncomputable abbrev A4Letter_c6 : Code := (cr (cr (cr (cl (cl (cr (cl (cl (cr (cl (cr (cr (cr (cr (bodyOf Tryz.f72)))))))))))))))
noncomputable abbrev A4Letter_c7 : Code := (cl (cl (cr (cl (cr (cr (cr (cr (bodyOf Tryz.f72)))))))))
noncomputable abbrev A4Letter_c8 : Code := (cr (cl (cr (cr (cr (cr (bodyOf Tryz.f72)))))))
noncomputable abbrev A4Letter_a0 : An := A4Letter_an.right.right.right.right.right
noncomputable abbrev A4Letter_a1 : An := A4Letter_an.right.right.right.right.left.right.left.left.right.right
noncomputable abbrev A4Letter_a2 : An := A4Letter_an.right.right.right.right
noncomputable abbrev A4Letter_a3 : An := A4Letter_an.right.right.right.right.left.right.left
noncomputable abbrev A4Letter_a4 : An := A4Letter_an.right.right.right.right.left.right.left.left.right.left.left.right.right.right.left.left.right.right
noncomputable abbrev A4Letter_a5 : An := A4Letter_an.right.right.right.right.left.right.left.left.right
noncomputable abbrev A4Letter_a6 : An := A4Letter_an.right.right.right.right.left.right.left.left.right.left.left.right.right.right.left
noncomputable abbrev A4Letter_a7 : An := A4Letter_an.right.right.right.right.left.right.left.left.right.left.left.right.right.right.left.left.right.left.left.right.right.right.left.right
noncomputable abbrev A4Letter_a8 : An := A4Letter_an.right.right.right.right.left.right.left.left.right.left.left.right.right.right.left.left.right
noncomputable abbrev A4Letter_a9 : An := A4Letter_an.right.right.right.right.left.right.left.left.right.left.left.right.right.right.left.left.right.left.left.right.right.right.right
noncomputable abbrev A4Letter_a10 : An := A4Letter_an.right.right.right.right.left.right.left.left.right.left.left.right.right.right.left.left.right.left.left.right.right.right
noncomputable abbrev A4Letter_a11 : An := A4Letter_an.right.right.right.right.left.right.left.left.right.left.left.right.right.right.left.left
noncomputable abbrev A4Letter_a12 : An := A4Letter_an.right.right.right.right.left.right.left.left.right.left.left.right.right.right
noncomputable abbrev A4Letter_a13 : An := A4Letter_an.right.right.right.right.left.right.left.left
noncomputable abbrev A4Letter_a14 : An := A4Letter_an.right.right.right.right.left.right
noncomputable abbrev A4Letter_K0 (r2 k0 : St → A4Letter_R) : Ex → St → A4Letter_R := (kSeq r2 A4Letter_a3 (kBlk 0 (kSeq k0 A4Letter_a2 (kFin Tryz.prog A4Letter_rs Tryz.f72))))
noncomputable abbrev A4Letter_K1 (r5 k3 r2 k0 : St → A4Letter_R) : Ex → St → A4Letter_R := (kSeq r5 A4Letter_a6 (kBlk 2 (kBlk 1 (kSeq k3 A4Letter_a5 (kSeq r2 A4Letter_a3 (kBlk 0 (kSeq k0 A4Letter_a2 (kFin Tryz.prog A4Letter_rs Tryz.f72))))))))
noncomputable abbrev A4Letter_K2 (n : Nat) (k6 r5 k3 r2 k0 : St → A4Letter_R) : Ex → St → A4Letter_R := (kSeq (fun st => codeK Tryz.prog A4Letter_sp n A4Letter_c4 A4Letter_a9 st (kBlk 3 (kSeq k6 A4Letter_a8 (kSeq r5 A4Letter_a6 (kBlk 2 (kBlk 1 (kSeq k3 A4Letter_a5 (kSeq r2 A4Letter_a3 (kBlk 0 (kSeq k0 A4Letter_a2 (kFin Tryz.prog A4Letter_rs Tryz.f72))))))))))) A4Letter_a10 (kBlk 3 (kSeq k6 A4Letter_a8 (kSeq r5 A4Letter_a6 (kBlk 2 (kBlk 1 (kSeq k3 A4Letter_a5 (kSeq r2 A4Letter_a3 (kBlk 0 (kSeq k0 A4Letter_a2 (kFin Tryz.prog A4Letter_rs Tryz.f72)))))))))))
noncomputable abbrev A4Letter_K3 (r5 k3 r2 k0 : St → A4Letter_R) : Ex → St → A4Letter_R := (kSeq r5 A4Letter_a6 (kBlk 2 (kBlk 1 (kSeq k3 A4Letter_a5 (kSeq r2 A4Letter_a3 (kBlk 0 (kSeq k0 A4Letter_a2 (kFin Tryz.prog A4Letter_rs Tryz.f72))))))))
noncomputable abbrev A4Letter_K4 (k3 r2 k0 : St → A4Letter_R) : Ex → St → A4Letter_R := (kBlk 1 (kSeq k3 A4Letter_a5 (kSeq r2 A4Letter_a3 (kBlk 0 (kSeq k0 A4Letter_a2 (kFin Tryz.prog A4Letter_rs Tryz.f72))))))
noncomputable abbrev A4Letter_K5 (r2 k0 : St → A4Letter_R) : Ex → St → A4Letter_R := (kSeq r2 A4Letter_a3 (kBlk 0 (kSeq k0 A4Letter_a2 (kFin Tryz.prog A4Letter_rs Tryz.f72))))
noncomputable abbrev A4Letter_K6 (k0 : St → A4Letter_R) : Ex → St → A4Letter_R := (kSeq k0 A4Letter_a2 (kFin Tryz.prog A4Letter_rs Tryz.f72))
abbrev A4Letter_t0 := ByteArray
def A4Letter_m0 (z : A4Letter_t0) : St := ⟨(jk 3 (.v ⟨.str, z⟩ :: jk 97 [])), []⟩
abbrev A4Letter_t1 := (List D_api_Rule) × ByteArray × Bool × Int × D_EFire
def A4Letter_m1 (z : A4Letter_t1) : St := ⟨(.v ⟨(.list T_api_Rule), z.1⟩ :: .junk :: .junk :: .v ⟨.str, z.2.1⟩ :: .v ⟨.bool, z.2.2.1⟩ :: .v ⟨(.ptr 0 0 T_EFire), ()⟩ :: .v ⟨(.int .i64), z.2.2.2.1⟩ :: jk 94 []), [some (.one ⟨T_EFire, z.2.2.2.2⟩)]⟩
abbrev A4Letter_t2 := (List D_api_Rule) × ByteArray × Bool × Int × D_EFire
def A4Letter_m2 (z : A4Letter_t2) : St := ⟨(.v ⟨(.list T_api_Rule), z.1⟩ :: .junk :: .junk :: .v ⟨.str, z.2.1⟩ :: .v ⟨.bool, z.2.2.1⟩ :: .v ⟨(.ptr 0 0 T_EFire), ()⟩ :: .v ⟨(.int .i64), z.2.2.2.1⟩ :: jk 94 []), [some (.one ⟨T_EFire, z.2.2.2.2⟩)]⟩
abbrev A4Letter_t3 := (List D_api_Rule) × ByteArray × Bool × Int × D_EFire
def A4Letter_m3 (z : A4Letter_t3) : St := ⟨(.v ⟨(.list T_api_Rule), z.1⟩ :: .junk :: .junk :: .v ⟨.str, z.2.1⟩ :: .v ⟨.bool, z.2.2.1⟩ :: .v ⟨(.ptr 0 0 T_EFire), ()⟩ :: .v ⟨(.int .i64), z.2.2.2.1⟩ :: jk 94 []), [some (.one ⟨T_EFire, z.2.2.2.2⟩)]⟩
abbrev A4Letter_t4 := (List D_api_Rule) × ByteArray × Bool × Int × Int × D_EFire × (List D_api_Rule)
def A4Letter_m4 (z : A4Letter_t4) : St := ⟨(.v ⟨(.list T_api_Rule), z.1⟩ :: .junk :: .junk :: .v ⟨.str, z.2.1⟩ :: .v ⟨.bool, z.2.2.1⟩ :: .v ⟨(.ptr 0 0 T_EFire), ()⟩ :: .v ⟨(.int .i64), z.2.2.2.1⟩ :: .v ⟨(.sl 1 T_api_Rule), ()⟩ :: .v ⟨(.int .i64), z.2.2.2.2.1⟩ :: jk 92 []), [some (.one ⟨T_EFire, z.2.2.2.2.2.1⟩), some (.arr 59 T_api_Rule z.2.2.2.2.2.2)]⟩
abbrev A4Letter_t5 := (List D_api_Rule) × ByteArray × Bool × Int × (List D_api_Rule) × Int × D_EFire
def A4Letter_m5 (z : A4Letter_t5) : St := ⟨(.v ⟨(.list T_api_Rule), z.1⟩ :: .junk :: .junk :: .v ⟨.str, z.2.1⟩ :: .v ⟨.bool, z.2.2.1⟩ :: .v ⟨(.ptr 0 0 T_EFire), ()⟩ :: .v ⟨(.int .i64), z.2.2.2.1⟩ :: .v ⟨(.list T_api_Rule), z.2.2.2.2.1⟩ :: .v ⟨(.int .i64), z.2.2.2.2.2.1⟩ :: jk 92 []), [some (.one ⟨T_EFire, z.2.2.2.2.2.2⟩)]⟩
abbrev A4Letter_t6 := (List D_api_Rule) × ByteArray × Bool × Int × (List D_api_Rule) × Int × D_EFire
def A4Letter_m6 (z : A4Letter_t6) : St := ⟨(.v ⟨(.list T_api_Rule), z.1⟩ :: .junk :: .junk :: .v ⟨.str, z.2.1⟩ :: .v ⟨.bool, z.2.2.1⟩ :: .v ⟨(.ptr 0 0 T_EFire), ()⟩ :: .v ⟨(.int .i64), z.2.2.2.1⟩ :: .v ⟨(.list T_api_Rule), z.2.2.2.2.1⟩ :: .v ⟨(.int .i64), z.2.2.2.2.2.1⟩ :: jk 92 []), [some (.one ⟨T_EFire, z.2.2.2.2.2.2⟩)]⟩
abbrev A4Letter_t7 := (List D_api_Rule) × ByteArray × Bool × Int × Bool × D_EFire × (List D_EFire)
def A4Letter_m7 (z : A4Letter_t7) : St := ⟨(.v ⟨(.list T_api_Rule), z.1⟩ :: .junk :: .junk :: .v ⟨.str, z.2.1⟩ :: .v ⟨.bool, z.2.2.1⟩ :: .v ⟨(.ptr 0 0 T_EFire), ()⟩ :: .v ⟨(.int .i64), z.2.2.2.1⟩ :: .junk :: .junk :: .v ⟨(.sl 1 T_EFire), ()⟩ :: jk 81 (.v ⟨.bool, z.2.2.2.2.1⟩ :: jk 9 [])), [some (.one ⟨T_EFire, z.2.2.2.2.2.1⟩), some (.arr 121 T_EFire z.2.2.2.2.2.2)]⟩
def A4Letter_p0 (_n : Nat) (z : A4Letter_t0) : A4Letter_R :=
  some (z, ())
def A4Letter_s0 (n : Nat) (z : A4Letter_t0) : A4Letter_R := A4Letter_p0 n z
theorem A4Letter_e0 (n : Nat) (rc : RC A4Letter_R) (z : A4Letter_t0) : codeR rc Tryz.prog A4Letter_sp n A4Letter_c0 A4Letter_a0 (A4Letter_m0 z) (kFin Tryz.prog A4Letter_rs Tryz.f72) = A4Letter_p0 n z := by kernel_rfl
theorem A4Letter_q0 (n : Nat) (z : A4Letter_t0) : codeK Tryz.prog A4Letter_sp n A4Letter_c0 A4Letter_a0 (A4Letter_m0 z) (kFin Tryz.prog A4Letter_rs Tryz.f72) = A4Letter_s0 n z := by
  rw [codeK_R, A4Letter_e0]
  rfl
def A4Letter_p3 (_n : Nat) (_k0 : A4Letter_t0 → A4Letter_R) (r2 : A4Letter_t2 → A4Letter_R) (z : A4Letter_t3) : A4Letter_R :=
  r2 (z.1, z.2.1, z.2.2.1, (w64 (z.2.2.2.1 + 1)), z.2.2.2.2)
def A4Letter_s3 (n : Nat) (k0 : A4Letter_t0 → A4Letter_R) (r2 : A4Letter_t2 → A4Letter_R) (z : A4Letter_t3) : A4Letter_R := A4Letter_p3 n k0 r2 z
theorem A4Letter_e3 (n : Nat) (k0 : St → A4Letter_R) (r2 : St → A4Letter_R) (rc : RC A4Letter_R) (z : A4Letter_t3) : codeR rc Tryz.prog A4Letter_sp n A4Letter_c1 A4Letter_a1 (A4Letter_m3 z) (A4Letter_K0 r2 k0) = A4Letter_p3 n (fun y => k0 (A4Letter_m0 y)) (fun y => r2 (A4Letter_m2 y)) z := by kernel_rfl
theorem A4Letter_q3 (n : Nat) (k0 : St → A4Letter_R) (r2 : St → A4Letter_R) (z : A4Letter_t3) : codeK Tryz.prog A4Letter_sp n A4Letter_c1 A4Letter_a1 (A4Letter_m3 z) (A4Letter_K0 r2 k0) = A4Letter_s3 n (fun y => k0 (A4Letter_m0 y)) (fun y => r2 (A4Letter_m2 y)) z := by
  rw [codeK_R, A4Letter_e3]
  rfl
def A4Letter_p6 (_n : Nat) (_k0 : A4Letter_t0 → A4Letter_R) (_r2 : A4Letter_t2 → A4Letter_R) (_k3 : A4Letter_t3 → A4Letter_R) (r5 : A4Letter_t5 → A4Letter_R) (z : A4Letter_t6) : A4Letter_R :=
  r5 (z.1, z.2.1, z.2.2.1, z.2.2.2.1, z.2.2.2.2.1, (w64 (z.2.2.2.2.2.1 + 1)), z.2.2.2.2.2.2)
def A4Letter_s6 (n : Nat) (k0 : A4Letter_t0 → A4Letter_R) (r2 : A4Letter_t2 → A4Letter_R) (k3 : A4Letter_t3 → A4Letter_R) (r5 : A4Letter_t5 → A4Letter_R) (z : A4Letter_t6) : A4Letter_R := A4Letter_p6 n k0 r2 k3 r5 z
theorem A4Letter_e6 (n : Nat) (k0 : St → A4Letter_R) (r2 : St → A4Letter_R) (k3 : St → A4Letter_R) (r5 : St → A4Letter_R) (rc : RC A4Letter_R) (z : A4Letter_t6) : codeR rc Tryz.prog A4Letter_sp n A4Letter_c2 A4Letter_a4 (A4Letter_m6 z) (A4Letter_K1 r5 k3 r2 k0) = A4Letter_p6 n (fun y => k0 (A4Letter_m0 y)) (fun y => r2 (A4Letter_m2 y)) (fun y => k3 (A4Letter_m3 y)) (fun y => r5 (A4Letter_m5 y)) z := by kernel_rfl
theorem A4Letter_q6 (n : Nat) (k0 : St → A4Letter_R) (r2 : St → A4Letter_R) (k3 : St → A4Letter_R) (r5 : St → A4Letter_R) (z : A4Letter_t6) : codeK Tryz.prog A4Letter_sp n A4Letter_c2 A4Letter_a4 (A4Letter_m6 z) (A4Letter_K1 r5 k3 r2 k0) = A4Letter_s6 n (fun y => k0 (A4Letter_m0 y)) (fun y => r2 (A4Letter_m2 y)) (fun y => k3 (A4Letter_m3 y)) (fun y => r5 (A4Letter_m5 y)) z := by
  rw [codeK_R, A4Letter_e6]
  rfl
def A4Letter_p7 (_n : Nat) (_k0 : A4Letter_t0 → A4Letter_R) (_r2 : A4Letter_t2 → A4Letter_R) (k3 : A4Letter_t3 → A4Letter_R) (_r5 : A4Letter_t5 → A4Letter_R) (_k6 : A4Letter_t6 → A4Letter_R) (z : A4Letter_t7) : A4Letter_R :=
  bif z.2.2.2.2.1 then
    bif decide (0 ≤ (0 : Int) ∧ (0 : Int) < (List.length z.2.2.2.2.2.2 : Int)) then
      ((z.2.2.2.2.2.2[(Int.toNat (0 : Int))]?)).bind fun e25 =>
      bif decide (0 ≤ z.2.2.2.1) then
        ((z.1[Int.toNat z.2.2.2.1]?)).bind fun e26 =>
        k3 (z.1, e26.2.2.2.2.2.2.2.1, true, z.2.2.2.1, e25)
      else none
    else none
  else
    k3 (z.1, z.2.1, z.2.2.1, z.2.2.2.1, z.2.2.2.2.2.1)
def A4Letter_s7 (n : Nat) (k0 : A4Letter_t0 → A4Letter_R) (r2 : A4Letter_t2 → A4Letter_R) (k3 : A4Letter_t3 → A4Letter_R) (r5 : A4Letter_t5 → A4Letter_R) (k6 : A4Letter_t6 → A4Letter_R) (z : A4Letter_t7) : A4Letter_R := A4Letter_p7 n k0 r2 k3 r5 k6 z
theorem A4Letter_e7 (n : Nat) (k0 : St → A4Letter_R) (r2 : St → A4Letter_R) (k3 : St → A4Letter_R) (r5 : St → A4Letter_R) (k6 : St → A4Letter_R) (rc : RC A4Letter_R) (z : A4Letter_t7) : codeR rc Tryz.prog A4Letter_sp n A4Letter_c3 A4Letter_a7 (A4Letter_m7 z) (A4Letter_K2 n k6 r5 k3 r2 k0) = A4Letter_p7 n (fun y => k0 (A4Letter_m0 y)) (fun y => r2 (A4Letter_m2 y)) (fun y => k3 (A4Letter_m3 y)) (fun y => r5 (A4Letter_m5 y)) (fun y => k6 (A4Letter_m6 y)) z := by kernel_rfl
theorem A4Letter_q7 (n : Nat) (k0 : St → A4Letter_R) (r2 : St → A4Letter_R) (k3 : St → A4Letter_R) (r5 : St → A4Letter_R) (k6 : St → A4Letter_R) (z : A4Letter_t7) : codeK Tryz.prog A4Letter_sp n A4Letter_c3 A4Letter_a7 (A4Letter_m7 z) (A4Letter_K2 n k6 r5 k3 r2 k0) = A4Letter_s7 n (fun y => k0 (A4Letter_m0 y)) (fun y => r2 (A4Letter_m2 y)) (fun y => k3 (A4Letter_m3 y)) (fun y => r5 (A4Letter_m5 y)) (fun y => k6 (A4Letter_m6 y)) z := by
  rw [codeK_R, A4Letter_e7]
  rfl
def A4Letter_p5 (n : Nat) (_k0 : A4Letter_t0 → A4Letter_R) (_r2 : A4Letter_t2 → A4Letter_R) (k3 : A4Letter_t3 → A4Letter_R) (_r5 : A4Letter_t5 → A4Letter_R) (k6 : A4Letter_t6 → A4Letter_R) (k7 : A4Letter_t7 → A4Letter_R) (z : A4Letter_t5) : A4Letter_R :=
  bif decide (0 ≤ z.2.2.2.1) then
    ((z.1[Int.toNat z.2.2.2.1]?)).bind fun e7 =>
    bif (decide (z.2.2.2.2.2.1 ≤ (imin e7.2.2.1 (9999 : Int)))) then
      bif decide (0 ≤ z.2.2.2.1) then
        ((z.1[Int.toNat z.2.2.2.1]?)).bind fun e9 =>
        bif (decide ((w64 (z.2.2.2.2.2.1 - (imax e9.2.1 (1 : Int)))) ≤ 8)) then
          ((A4year n (z.2.2.2.2.1, (z.2.2.2.2.2.1, ())))).bind fun v12 =>
          bif ((List.length v12.1 : Int) == 0) then
            k6 (z.1, z.2.1, z.2.2.1, z.2.2.2.1, z.2.2.2.2.1, z.2.2.2.2.2.1, z.2.2.2.2.2.2)
          else
            bif decide (0 ≤ (0 : Int) ∧ (0 : Int) < (List.length v12.1 : Int)) then
              ((v12.1[(Int.toNat (0 : Int))]?)).bind fun e14 =>
              let l15 := List.set v12.1 (Int.toNat (0 : Int)) (z.2.2.2.1, e14.2)
              bif (!z.2.2.1) then
                k7 (z.1, z.2.1, z.2.2.1, z.2.2.2.1, true, z.2.2.2.2.2.2, l15)
              else
                bif decide (0 ≤ (0 : Int) ∧ (0 : Int) < (List.length l15 : Int)) then
                  ((l15[(Int.toNat (0 : Int))]?)).bind fun e17 =>
                  bif (decide (e17.2.1 < z.2.2.2.2.2.2.2.1)) then
                    k7 (z.1, z.2.1, z.2.2.1, z.2.2.2.1, true, z.2.2.2.2.2.2, l15)
                  else
                    bif decide (0 ≤ (0 : Int) ∧ (0 : Int) < (List.length l15 : Int)) then
                      ((l15[(Int.toNat (0 : Int))]?)).bind fun e19 =>
                      bif (e19.2.1 == z.2.2.2.2.2.2.2.1) then
                        bif decide (0 ≤ (0 : Int) ∧ (0 : Int) < (List.length l15 : Int)) then
                          ((l15[(Int.toNat (0 : Int))]?)).bind fun e21 =>
                          ((A4before n (e21, (z.2.2.2.2.2.2, ())))).bind fun v22 =>
                          k7 (z.1, z.2.1, z.2.2.1, z.2.2.2.1, v22.1, z.2.2.2.2.2.2, l15)
                        else none
                      else
                        k7 (z.1, z.2.1, z.2.2.1, z.2.2.2.1, false, z.2.2.2.2.2.2, l15)
                    else none
                else none
            else none
        else
          k3 (z.1, z.2.1, z.2.2.1, z.2.2.2.1, z.2.2.2.2.2.2)
      else none
    else
      k3 (z.1, z.2.1, z.2.2.1, z.2.2.2.1, z.2.2.2.2.2.2)
  else none
def A4Letter_s5 (n : Nat) (k0 : A4Letter_t0 → A4Letter_R) (r2 : A4Letter_t2 → A4Letter_R) (k3 : A4Letter_t3 → A4Letter_R) (r5 : A4Letter_t5 → A4Letter_R) (z : A4Letter_t5) : A4Letter_R := A4Letter_p5 n k0 r2 k3 r5 (A4Letter_s6 n k0 r2 k3 r5) (A4Letter_s7 n k0 r2 k3 r5 (A4Letter_s6 n k0 r2 k3 r5)) z
theorem A4Letter_e5 (n : Nat) (k0 : St → A4Letter_R) (r2 : St → A4Letter_R) (k3 : St → A4Letter_R) (r5 : St → A4Letter_R) (rc : RC A4Letter_R) (z : A4Letter_t5) : codeR rc Tryz.prog A4Letter_sp n A4Letter_c5 A4Letter_a11 (A4Letter_m5 z) (A4Letter_K3 r5 k3 r2 k0) = A4Letter_p5 n (fun y => k0 (A4Letter_m0 y)) (fun y => r2 (A4Letter_m2 y)) (fun y => k3 (A4Letter_m3 y)) (fun y => r5 (A4Letter_m5 y)) (fun y => rc A4Letter_c2 A4Letter_a4 (A4Letter_m6 y) (A4Letter_K1 r5 k3 r2 k0)) (fun y => rc A4Letter_c3 A4Letter_a7 (A4Letter_m7 y) (A4Letter_K2 n (fun st => rc A4Letter_c2 A4Letter_a4 st (A4Letter_K1 r5 k3 r2 k0)) r5 k3 r2 k0)) z := by kernel_rfl
theorem A4Letter_q5 (n : Nat) (k0 : St → A4Letter_R) (r2 : St → A4Letter_R) (k3 : St → A4Letter_R) (r5 : St → A4Letter_R) (z : A4Letter_t5) : codeK Tryz.prog A4Letter_sp n A4Letter_c5 A4Letter_a11 (A4Letter_m5 z) (A4Letter_K3 r5 k3 r2 k0) = A4Letter_s5 n (fun y => k0 (A4Letter_m0 y)) (fun y => r2 (A4Letter_m2 y)) (fun y => k3 (A4Letter_m3 y)) (fun y => r5 (A4Letter_m5 y)) z := by
  have h6 : (fun y => codeK Tryz.prog A4Letter_sp n A4Letter_c2 A4Letter_a4 (A4Letter_m6 y) (A4Letter_K1 r5 k3 r2 k0)) = (A4Letter_s6 n (fun y => k0 (A4Letter_m0 y)) (fun y => r2 (A4Letter_m2 y)) (fun y => k3 (A4Letter_m3 y)) (fun y => r5 (A4Letter_m5 y))) := funext fun y => by
    have := A4Letter_q6 n k0 r2 k3 r5 y
    exact this
  have h7 : (fun y => codeK Tryz.prog A4Letter_sp n A4Letter_c3 A4Letter_a7 (A4Letter_m7 y) (A4Letter_K2 n (fun st => codeK Tryz.prog A4Letter_sp n A4Letter_c2 A4Letter_a4 st (A4Letter_K1 r5 k3 r2 k0)) r5 k3 r2 k0)) = (A4Letter_s7 n (fun y => k0 (A4Letter_m0 y)) (fun y => r2 (A4Letter_m2 y)) (fun y => k3 (A4Letter_m3 y)) (fun y => r5 (A4Letter_m5 y)) (A4Letter_s6 n (fun y => k0 (A4Letter_m0 y)) (fun y => r2 (A4Letter_m2 y)) (fun y => k3 (A4Letter_m3 y)) (fun y => r5 (A4Letter_m5 y)))) := funext fun y => by
    have := A4Letter_q7 n k0 r2 k3 r5 (fun st => codeK Tryz.prog A4Letter_sp n A4Letter_c2 A4Letter_a4 st (A4Letter_K1 r5 k3 r2 k0)) y
    rw [h6] at this; exact this
  rw [codeK_R, A4Letter_e5]
  rw [h6]
  rw [h7]
  rfl
def A4Letter_s4 (n : Nat) (k0 : A4Letter_t0 → A4Letter_R) (r2 : A4Letter_t2 → A4Letter_R) (k3 : A4Letter_t3 → A4Letter_R) (z : A4Letter_t4) : A4Letter_R :=
  rounds (fun r5 x' => A4Letter_s5 n k0 r2 k3 r5 x') n (z.1, z.2.1, z.2.2.1, z.2.2.2.1, z.2.2.2.2.2.2, z.2.2.2.2.1, z.2.2.2.2.2.1)
theorem A4Letter_q4 (n : Nat) (k0 : St → A4Letter_R) (r2 : St → A4Letter_R) (k3 : St → A4Letter_R) (z : A4Letter_t4) : codeK Tryz.prog A4Letter_sp n A4Letter_c6 A4Letter_a12 (A4Letter_m4 z) (A4Letter_K4 k3 r2 k0) = A4Letter_s4 n (fun y => k0 (A4Letter_m0 y)) (fun y => r2 (A4Letter_m2 y)) (fun y => k3 (A4Letter_m3 y)) z :=
  Eq.trans (b := rounds (fun r5 st => codeK Tryz.prog A4Letter_sp n A4Letter_c5 A4Letter_a11 st (A4Letter_K3 r5 k3 r2 k0)) n (A4Letter_m5 (z.1, z.2.1, z.2.2.1, z.2.2.2.1, z.2.2.2.2.2.2, z.2.2.2.2.1, z.2.2.2.2.2.1))) (by kernel_rfl) (rounds_mk A4Letter_m5 (fun r5 x' => by
    have := (A4Letter_q5 n k0 r2 k3 r5 x')
    exact this) n _)
def A4Letter_p2 (_n : Nat) (k0 : A4Letter_t0 → A4Letter_R) (_r2 : A4Letter_t2 → A4Letter_R) (k3 : A4Letter_t3 → A4Letter_R) (k4 : A4Letter_t4 → A4Letter_R) (z : A4Letter_t2) : A4Letter_R :=
  bif (decide (z.2.2.2.1 < (List.length z.1 : Int))) then
    bif decide (0 ≤ z.2.2.2.1) then
      ((z.1[Int.toNat z.2.2.2.1]?)).bind fun e1 =>
      bif (e1.2.2.2.2.2.2.1 != 0) then
        k3 (z.1, z.2.1, z.2.2.1, z.2.2.2.1, z.2.2.2.2)
      else
        bif decide (0 ≤ z.2.2.2.1) then
          ((z.1[Int.toNat z.2.2.2.1]?)).bind fun e2 =>
          bif decide (0 ≤ z.2.2.2.1) then
            ((z.1[Int.toNat z.2.2.2.1]?)).bind fun e4 =>
            k4 (z.1, z.2.1, z.2.2.1, z.2.2.2.1, (imax e4.2.1 (1 : Int)), z.2.2.2.2, ((e2 :: [])))
          else none
        else none
    else none
  else
    k0 z.2.1
def A4Letter_s2 (n : Nat) (k0 : A4Letter_t0 → A4Letter_R) (r2 : A4Letter_t2 → A4Letter_R) (z : A4Letter_t2) : A4Letter_R := A4Letter_p2 n k0 r2 (A4Letter_s3 n k0 r2) (A4Letter_s4 n k0 r2 (A4Letter_s3 n k0 r2)) z
theorem A4Letter_e2 (n : Nat) (k0 : St → A4Letter_R) (r2 : St → A4Letter_R) (rc : RC A4Letter_R) (z : A4Letter_t2) : codeR rc Tryz.prog A4Letter_sp n A4Letter_c7 A4Letter_a13 (A4Letter_m2 z) (A4Letter_K5 r2 k0) = A4Letter_p2 n (fun y => k0 (A4Letter_m0 y)) (fun y => r2 (A4Letter_m2 y)) (fun y => rc A4Letter_c1 A4Letter_a1 (A4Letter_m3 y) (A4Letter_K0 r2 k0)) (fun y => rc A4Letter_c6 A4Letter_a12 (A4Letter_m4 y) (A4Letter_K4 (fun st => rc A4Letter_c1 A4Letter_a1 st (A4Letter_K0 r2 k0)) r2 k0)) z := by kernel_rfl
theorem A4Letter_q2 (n : Nat) (k0 : St → A4Letter_R) (r2 : St → A4Letter_R) (z : A4Letter_t2) : codeK Tryz.prog A4Letter_sp n A4Letter_c7 A4Letter_a13 (A4Letter_m2 z) (A4Letter_K5 r2 k0) = A4Letter_s2 n (fun y => k0 (A4Letter_m0 y)) (fun y => r2 (A4Letter_m2 y)) z := by
  have h3 : (fun y => codeK Tryz.prog A4Letter_sp n A4Letter_c1 A4Letter_a1 (A4Letter_m3 y) (A4Letter_K0 r2 k0)) = (A4Letter_s3 n (fun y => k0 (A4Letter_m0 y)) (fun y => r2 (A4Letter_m2 y))) := funext fun y => by
    have := A4Letter_q3 n k0 r2 y
    exact this
  have h4 : (fun y => codeK Tryz.prog A4Letter_sp n A4Letter_c6 A4Letter_a12 (A4Letter_m4 y) (A4Letter_K4 (fun st => codeK Tryz.prog A4Letter_sp n A4Letter_c1 A4Letter_a1 st (A4Letter_K0 r2 k0)) r2 k0)) = (A4Letter_s4 n (fun y => k0 (A4Letter_m0 y)) (fun y => r2 (A4Letter_m2 y)) (A4Letter_s3 n (fun y => k0 (A4Letter_m0 y)) (fun y => r2 (A4Letter_m2 y)))) := funext fun y => by
    have := A4Letter_q4 n k0 r2 (fun st => codeK Tryz.prog A4Letter_sp n A4Letter_c1 A4Letter_a1 st (A4Letter_K0 r2 k0)) y
    rw [h3] at this; exact this
  rw [codeK_R, A4Letter_e2]
  rw [h3]
  rw [h4]
  rfl
def A4Letter_s1 (n : Nat) (k0 : A4Letter_t0 → A4Letter_R) (z : A4Letter_t1) : A4Letter_R :=
  rounds (fun r2 x' => A4Letter_s2 n k0 r2 x') n (z.1, z.2.1, z.2.2.1, z.2.2.2.1, z.2.2.2.2)
theorem A4Letter_q1 (n : Nat) (k0 : St → A4Letter_R) (z : A4Letter_t1) : codeK Tryz.prog A4Letter_sp n A4Letter_c8 A4Letter_a14 (A4Letter_m1 z) (A4Letter_K6 k0) = A4Letter_s1 n (fun y => k0 (A4Letter_m0 y)) z :=
  Eq.trans (b := rounds (fun r2 st => codeK Tryz.prog A4Letter_sp n A4Letter_c7 A4Letter_a13 st (A4Letter_K5 r2 k0)) n (A4Letter_m2 (z.1, z.2.1, z.2.2.1, z.2.2.2.1, z.2.2.2.2))) (by kernel_rfl) (rounds_mk A4Letter_m2 (fun r2 x' => by
    have := (A4Letter_q2 n k0 r2 x')
    exact this) n _)
def A4Letter_px (_n : Nat) (k0 : A4Letter_t0 → A4Letter_R) (k1 : A4Letter_t1 → A4Letter_R) (x : ((List D_api_Rule) × Unit)) : A4Letter_R :=
  k1 (x.1, (⟨#[]⟩ : ByteArray), false, (0 : Int), ((0 : Int), ((0 : Int), ((0 : Int), ((0 : Int), ())))))
def A4Letter (n : Nat) (x : ((List D_api_Rule) × Unit)) : A4Letter_R := A4Letter_px n (A4Letter_s0 n) (A4Letter_s1 n (A4Letter_s0 n)) x
theorem A4Letter_ex (n : Nat) (rc : RC A4Letter_R) (x : ((List D_api_Rule) × Unit)) : codeR rc Tryz.prog A4Letter_sp n (bodyOf Tryz.f72) A4Letter_an (start A4Letter_ps x (Func.ntmps Tryz.f72)) (kFin Tryz.prog A4Letter_rs Tryz.f72) = A4Letter_px n (fun y => rc A4Letter_c0 A4Letter_a0 (A4Letter_m0 y) (kFin Tryz.prog A4Letter_rs Tryz.f72)) (fun y => rc A4Letter_c8 A4Letter_a14 (A4Letter_m1 y) (A4Letter_K6 (fun st => rc A4Letter_c0 A4Letter_a0 st (kFin Tryz.prog A4Letter_rs Tryz.f72)))) x := by kernel_rfl
theorem A4Letter_qx (n : Nat) (x : ((List D_api_Rule) × Unit)) : codeK Tryz.prog A4Letter_sp n (bodyOf Tryz.f72) A4Letter_an (start A4Letter_ps x (Func.ntmps Tryz.f72)) (kFin Tryz.prog A4Letter_rs Tryz.f72) = A4Letter n x := by
  have h0 : (fun y => codeK Tryz.prog A4Letter_sp n A4Letter_c0 A4Letter_a0 (A4Letter_m0 y) (kFin Tryz.prog A4Letter_rs Tryz.f72)) = (A4Letter_s0 n) := funext fun y => by
    have := A4Letter_q0 n  y
    exact this
  have h1 : (fun y => codeK Tryz.prog A4Letter_sp n A4Letter_c8 A4Letter_a14 (A4Letter_m1 y) (A4Letter_K6 (fun st => codeK Tryz.prog A4Letter_sp n A4Letter_c0 A4Letter_a0 st (kFin Tryz.prog A4Letter_rs Tryz.f72)))) = (A4Letter_s1 n (A4Letter_s0 n)) := funext fun y => by
    have := A4Letter_q1 n (fun st => codeK Tryz.prog A4Letter_sp n A4Letter_c0 A4Letter_a0 st (kFin Tryz.prog A4Letter_rs Tryz.f72)) y
    rw [h0] at this; exact this
  rw [codeK_R, A4Letter_ex]
  rw [h0]
  rw [h1]
  rfl
def A4Letter_spec : Sp := ⟨A4Letter_ps, A4Letter_rs, A4Letter⟩
theorem A4Letter_ok : SoundX Tryz.prog CX 72 (.f A4Letter_spec) := sound_of (look_cons A4year_ok (look_cons A4before_ok look_nil)) Tryz.func72 (by kernel_rfl) rfl A4Letter_an A4Letter_spec rfl rfl A4Letter_qx
end Go.Proofs.YtadamegddcadcaaGreatDoorPi
