import Derived.Test.YtadamegddcadcaaGreatDoorFnD
set_option linter.unusedVariables false
set_option maxRecDepth 100000
set_option maxHeartbeats 4000000
set_option linter.unusedVariables false
namespace Go.Proofs.YtadamegddcadcaaGreatDoorPi
open Go Go.Proofs

/-! ### noonmark/noonmarkref04.Clock -/
abbrev A2Clock_ps : Ty := (.pair (.int .i64) .unit)
abbrev A2Clock_rs : Ty := T_api_At
def A2Clock_sp : Specs := look []
def A2Clock_an : An := (.s .o (.s .o (.k [] [4,5] 0 .o .o)))
abbrev A2Clock_R := Option D_api_At
noncomputable abbrev A2Clock_c0 : Code := (cr (cr (cr (bodyOf Tryz.f44))))
noncomputable abbrev A2Clock_a0 : An := A2Clock_an.right.right.right
abbrev A2Clock_t0 := Int × Int
def A2Clock_m0 (z : A2Clock_t0) : St := ⟨(jk 4 (.v ⟨(.int .i64), z.1⟩ :: .v ⟨(.int .i64), z.2⟩ :: jk 12 [])), []⟩
def A2Clock_p0 (_n : Nat) (z : A2Clock_t0) : A2Clock_R :=
  some (z.1, (z.2, ()))
def A2Clock_s0 (n : Nat) (z : A2Clock_t0) : A2Clock_R := A2Clock_p0 n z
theorem A2Clock_e0 (n : Nat) (rc : RC A2Clock_R) (z : A2Clock_t0) : codeR rc Tryz.prog A2Clock_sp n A2Clock_c0 A2Clock_a0 (A2Clock_m0 z) (kFin Tryz.prog A2Clock_rs Tryz.f44) = A2Clock_p0 n z := by kernel_rfl
theorem A2Clock_q0 (n : Nat) (z : A2Clock_t0) : codeK Tryz.prog A2Clock_sp n A2Clock_c0 A2Clock_a0 (A2Clock_m0 z) (kFin Tryz.prog A2Clock_rs Tryz.f44) = A2Clock_s0 n z := by
  rw [codeK_R, A2Clock_e0]
  rfl
def A2Clock_px (_n : Nat) (k0 : A2Clock_t0 → A2Clock_R) (x : (Int × Unit)) : A2Clock_R :=
  let t1 := w64 (Int.tdiv x.1 (86400 : Int))
  let t2 := Int.tmod x.1 (86400 : Int)
  bif (decide (t2 < 0)) then
    k0 ((w64 (t1 - 1)), (w64 (t2 + 86400)))
  else
    k0 (t1, t2)
def A2Clock (n : Nat) (x : (Int × Unit)) : A2Clock_R := A2Clock_px n (A2Clock_s0 n) x
theorem A2Clock_ex (n : Nat) (rc : RC A2Clock_R) (x : (Int × Unit)) : codeR rc Tryz.prog A2Clock_sp n (bodyOf Tryz.f44) A2Clock_an (start A2Clock_ps x (Func.ntmps Tryz.f44)) (kFin Tryz.prog A2Clock_rs Tryz.f44) = A2Clock_px n (fun y => rc A2Clock_c0 A2Clock_a0 (A2Clock_m0 y) (kFin Tryz.prog A2Clock_rs Tryz.f44)) x := by kernel_rfl
theorem A2Clock_qx (n : Nat) (x : (Int × Unit)) : codeK Tryz.prog A2Clock_sp n (bodyOf Tryz.f44) A2Clock_an (start A2Clock_ps x (Func.ntmps Tryz.f44)) (kFin Tryz.prog A2Clock_rs Tryz.f44) = A2Clock n x := by
  have h0 : (fun y => codeK Tryz.prog A2Clock_sp n A2Clock_c0 A2Clock_a0 (A2Clock_m0 y) (kFin Tryz.prog A2Clock_rs Tryz.f44)) = (A2Clock_s0 n) := funext fun y => by
    have := A2Clock_q0 n  y
    exact this
  rw [codeK_R, A2Clock_ex]
  rw [h0]
  rfl
def A2Clock_spec : Sp := ⟨A2Clock_ps, A2Clock_rs, A2Clock⟩
theorem A2Clock_ok : SoundX Tryz.prog CX 44 (.f A2Clock_spec) := sound_of look_nil Tryz.func44 (by kernel_rfl) rfl A2Clock_an A2Clock_spec rfl rfl A2Clock_qx

/-! ### noonmark/noonmarkref04.Date -/
abbrev A2Date_ps : Ty := (.pair (.int .i64) .unit)
abbrev A2Date_rs : Ty := T_EFire
def A2Date_sp : Specs := look [(67, .f A2year_spec), (68, .f A2Long_spec)]
def A2Date_an : An := (.s .o (.s .o (.s .o (.k [] [0,6] 0 .o (.k [] [0,6] 0 (.b (.l [] [0,6] 0 .o)) (.s .o (.k [] [0,6,7] 0 .o (.k [] [0,6,7] 0 (.b (.l [] [0,6,7] 0 .o)) .o))))))))
abbrev A2Date_R := Option D_EFire
noncomputable abbrev A2Date_c0 : Code := (cl (cl (cl (cr (cr (cr (cr (bodyOf Tryz.f45))))))))
noncomputable abbrev A2Date_c1 : Code := (cl (cl (cl (cr (cr (cr (cr (cr (cr (cr (bodyOf Tryz.f45)))))))))))
noncomputable abbrev A2Date_c2 : Code := (cr (cr (cr (cr (cr (cr (cr (cr (bodyOf Tryz.f45)))))))))
noncomputable abbrev A2Date_c3 : Code := (cr (cr (cr (cr (cr (cr (cr (bodyOf Tryz.f45))))))))
noncomputable abbrev A2Date_c4 : Code := (cr (cr (cr (cr (cr (bodyOf Tryz.f45))))))
noncomputable abbrev A2Date_c5 : Code := (cr (cr (cr (cr (bodyOf Tryz.f45)))))
noncomputable abbrev A2Date_a0 : An := A2Date_an.right.right.right.right.left.left.left
noncomputable abbrev A2Date_a1 : An := A2Date_an.right.right.right.right
noncomputable abbrev A2Date_a2 : An := A2Date_an.right.right.right.right.left.left
noncomputable abbrev A2Date_a3 : An := A2Date_an.right.right.right.right.right.right.right.left.left.left
noncomputable abbrev A2Date_a4 : An := A2Date_an.right.right.right.right.right.right.right
noncomputable abbrev A2Date_a5 : An := A2Date_an.right.right.right.right.right.right.right.left.left
noncomputable abbrev A2Date_a6 : An := A2Date_an.right.right.right.right.right.right.right.right
noncomputable abbrev A2Date_a7 : An := A2Date_an.right.right.right.right.right
noncomputable abbrev A2Date_K0 (r2 k1 : St → A2Date_R) : Ex → St → A2Date_R := (kSeq r2 A2Date_a2 (kBlk 0 (kSeq k1 A2Date_a1 (kFin Tryz.prog A2Date_rs Tryz.f45))))
noncomputable abbrev A2Date_K1 (r5 k4 : St → A2Date_R) : Ex → St → A2Date_R := (kSeq r5 A2Date_a5 (kBlk 2 (kSeq k4 A2Date_a4 (kFin Tryz.prog A2Date_rs Tryz.f45))))
abbrev A2Date_t0 := Int × Int
def A2Date_m0 (z : A2Date_t0) : St := ⟨(.v ⟨(.int .i64), z.1⟩ :: jk 5 (.v ⟨(.int .i64), z.2⟩ :: jk 43 [])), []⟩
abbrev A2Date_t1 := Int × Int
def A2Date_m1 (z : A2Date_t1) : St := ⟨(.v ⟨(.int .i64), z.1⟩ :: jk 5 (.v ⟨(.int .i64), z.2⟩ :: jk 43 [])), []⟩
abbrev A2Date_t2 := Int × Int
def A2Date_m2 (z : A2Date_t2) : St := ⟨(.v ⟨(.int .i64), z.1⟩ :: jk 5 (.v ⟨(.int .i64), z.2⟩ :: jk 43 [])), []⟩
abbrev A2Date_t3 := Int × Int × Int
def A2Date_m3 (z : A2Date_t3) : St := ⟨(.v ⟨(.int .i64), z.1⟩ :: jk 5 (.v ⟨(.int .i64), z.2.1⟩ :: .v ⟨(.int .i64), z.2.2⟩ :: jk 42 [])), []⟩
abbrev A2Date_t4 := Int × Int × Int
def A2Date_m4 (z : A2Date_t4) : St := ⟨(.v ⟨(.int .i64), z.1⟩ :: jk 5 (.v ⟨(.int .i64), z.2.1⟩ :: .v ⟨(.int .i64), z.2.2⟩ :: jk 42 [])), []⟩
abbrev A2Date_t5 := Int × Int × Int
def A2Date_m5 (z : A2Date_t5) : St := ⟨(.v ⟨(.int .i64), z.1⟩ :: jk 5 (.v ⟨(.int .i64), z.2.1⟩ :: .v ⟨(.int .i64), z.2.2⟩ :: jk 42 [])), []⟩
def A2Date_p2 (n : Nat) (k1 : A2Date_t1 → A2Date_R) (r2 : A2Date_t2 → A2Date_R) (z : A2Date_t2) : A2Date_R :=
  ((A2year n ((w64 (z.2 + 1)), ()))).bind fun v8 =>
  bif (decide (v8.1 ≤ z.1)) then
    r2 (z.1, (w64 (z.2 + 1)))
  else
    k1 (z.1, z.2)
def A2Date_s2 (n : Nat) (k1 : A2Date_t1 → A2Date_R) (r2 : A2Date_t2 → A2Date_R) (z : A2Date_t2) : A2Date_R := A2Date_p2 n k1 r2 z
theorem A2Date_e2 (n : Nat) (k1 : St → A2Date_R) (r2 : St → A2Date_R) (rc : RC A2Date_R) (z : A2Date_t2) : codeR rc Tryz.prog A2Date_sp n A2Date_c0 A2Date_a0 (A2Date_m2 z) (A2Date_K0 r2 k1) = A2Date_p2 n (fun y => k1 (A2Date_m1 y)) (fun y => r2 (A2Date_m2 y)) z := by kernel_rfl
theorem A2Date_q2 (n : Nat) (k1 : St → A2Date_R) (r2 : St → A2Date_R) (z : A2Date_t2) : codeK Tryz.prog A2Date_sp n A2Date_c0 A2Date_a0 (A2Date_m2 z) (A2Date_K0 r2 k1) = A2Date_s2 n (fun y => k1 (A2Date_m1 y)) (fun y => r2 (A2Date_m2 y)) z := by
  rw [codeK_R, A2Date_e2]
  rfl
def A2Date_p5 (n : Nat) (k4 : A2Date_t4 → A2Date_R) (r5 : A2Date_t5 → A2Date_R) (z : A2Date_t5) : A2Date_R :=
  ((A2Long n (z.2.1, (z.2.2, ())))).bind fun v12 =>
  bif (decide (z.1 ≥ v12.1)) then
    ((A2Long n (z.2.1, (z.2.2, ())))).bind fun v13 =>
    r5 ((w64 (z.1 - v13.1)), z.2.1, (w64 (z.2.2 + 1)))
  else
    k4 (z.1, z.2.1, z.2.2)
def A2Date_s5 (n : Nat) (k4 : A2Date_t4 → A2Date_R) (r5 : A2Date_t5 → A2Date_R) (z : A2Date_t5) : A2Date_R := A2Date_p5 n k4 r5 z
theorem A2Date_e5 (n : Nat) (k4 : St → A2Date_R) (r5 : St → A2Date_R) (rc : RC A2Date_R) (z : A2Date_t5) : codeR rc Tryz.prog A2Date_sp n A2Date_c1 A2Date_a3 (A2Date_m5 z) (A2Date_K1 r5 k4) = A2Date_p5 n (fun y => k4 (A2Date_m4 y)) (fun y => r5 (A2Date_m5 y)) z := by kernel_rfl
theorem A2Date_q5 (n : Nat) (k4 : St → A2Date_R) (r5 : St → A2Date_R) (z : A2Date_t5) : codeK Tryz.prog A2Date_sp n A2Date_c1 A2Date_a3 (A2Date_m5 z) (A2Date_K1 r5 k4) = A2Date_s5 n (fun y => k4 (A2Date_m4 y)) (fun y => r5 (A2Date_m5 y)) z := by
  rw [codeK_R, A2Date_e5]
  rfl
def A2Date_p4 (_n : Nat) (z : A2Date_t4) : A2Date_R :=
  some (z.2.1, (z.2.2, ((w64 (z.1 + 1)), ((0 : Int), ()))))
def A2Date_s4 (n : Nat) (z : A2Date_t4) : A2Date_R := A2Date_p4 n z
theorem A2Date_e4 (n : Nat) (rc : RC A2Date_R) (z : A2Date_t4) : codeR rc Tryz.prog A2Date_sp n A2Date_c2 A2Date_a6 (A2Date_m4 z) (kFin Tryz.prog A2Date_rs Tryz.f45) = A2Date_p4 n z := by kernel_rfl
theorem A2Date_q4 (n : Nat) (z : A2Date_t4) : codeK Tryz.prog A2Date_sp n A2Date_c2 A2Date_a6 (A2Date_m4 z) (kFin Tryz.prog A2Date_rs Tryz.f45) = A2Date_s4 n z := by
  rw [codeK_R, A2Date_e4]
  rfl
def A2Date_s3 (n : Nat) (z : A2Date_t3) : A2Date_R :=
  rounds (fun r5 x' => A2Date_s5 n (A2Date_s4 n) r5 x') n (z.1, z.2.1, z.2.2)
theorem A2Date_q3 (n : Nat) (z : A2Date_t3) : codeK Tryz.prog A2Date_sp n A2Date_c3 A2Date_a4 (A2Date_m3 z) (kFin Tryz.prog A2Date_rs Tryz.f45) = A2Date_s3 n z :=
  Eq.trans (b := rounds (fun r5 st => codeK Tryz.prog A2Date_sp n A2Date_c1 A2Date_a3 st (A2Date_K1 r5 (fun st => codeK Tryz.prog A2Date_sp n A2Date_c2 A2Date_a6 st (kFin Tryz.prog A2Date_rs Tryz.f45)))) n (A2Date_m5 (z.1, z.2.1, z.2.2))) (by kernel_rfl) (rounds_mk A2Date_m5 (fun r5 x' => by
    have h4 : (fun y => codeK Tryz.prog A2Date_sp n A2Date_c2 A2Date_a6 (A2Date_m4 y) (kFin Tryz.prog A2Date_rs Tryz.f45)) = (A2Date_s4 n) := funext fun y => by
      have := A2Date_q4 n  y
      exact this
    have := (A2Date_q5 n (fun st => codeK Tryz.prog A2Date_sp n A2Date_c2 A2Date_a6 st (kFin Tryz.prog A2Date_rs Tryz.f45)) r5 x')
    rw [h4] at this
    exact this) n _)
def A2Date_p1 (n : Nat) (k3 : A2Date_t3 → A2Date_R) (z : A2Date_t1) : A2Date_R :=
  ((A2year n (z.2, ()))).bind fun v10 =>
  k3 ((w64 (z.1 - v10.1)), z.2, (1 : Int))
def A2Date_s1 (n : Nat) (z : A2Date_t1) : A2Date_R := A2Date_p1 n (A2Date_s3 n) z
theorem A2Date_e1 (n : Nat) (rc : RC A2Date_R) (z : A2Date_t1) : codeR rc Tryz.prog A2Date_sp n A2Date_c4 A2Date_a7 (A2Date_m1 z) (kFin Tryz.prog A2Date_rs Tryz.f45) = A2Date_p1 n (fun y => rc A2Date_c3 A2Date_a4 (A2Date_m3 y) (kFin Tryz.prog A2Date_rs Tryz.f45)) z := by kernel_rfl
theorem A2Date_q1 (n : Nat) (z : A2Date_t1) : codeK Tryz.prog A2Date_sp n A2Date_c4 A2Date_a7 (A2Date_m1 z) (kFin Tryz.prog A2Date_rs Tryz.f45) = A2Date_s1 n z := by
  have h3 : (fun y => codeK Tryz.prog A2Date_sp n A2Date_c3 A2Date_a4 (A2Date_m3 y) (kFin Tryz.prog A2Date_rs Tryz.f45)) = (A2Date_s3 n) := funext fun y => by
    have := A2Date_q3 n  y
    exact this
  rw [codeK_R, A2Date_e1]
  rw [h3]
  rfl
def A2Date_s0 (n : Nat) (z : A2Date_t0) : A2Date_R :=
  rounds (fun r2 x' => A2Date_s2 n (A2Date_s1 n) r2 x') n (z.1, z.2)
theorem A2Date_q0 (n : Nat) (z : A2Date_t0) : codeK Tryz.prog A2Date_sp n A2Date_c5 A2Date_a1 (A2Date_m0 z) (kFin Tryz.prog A2Date_rs Tryz.f45) = A2Date_s0 n z :=
  Eq.trans (b := rounds (fun r2 st => codeK Tryz.prog A2Date_sp n A2Date_c0 A2Date_a0 st (A2Date_K0 r2 (fun st => codeK Tryz.prog A2Date_sp n A2Date_c4 A2Date_a7 st (kFin Tryz.prog A2Date_rs Tryz.f45)))) n (A2Date_m2 (z.1, z.2))) (by kernel_rfl) (rounds_mk A2Date_m2 (fun r2 x' => by
    have h1 : (fun y => codeK Tryz.prog A2Date_sp n A2Date_c4 A2Date_a7 (A2Date_m1 y) (kFin Tryz.prog A2Date_rs Tryz.f45)) = (A2Date_s1 n) := funext fun y => by
      have := A2Date_q1 n  y
      exact this
    have := (A2Date_q2 n (fun st => codeK Tryz.prog A2Date_sp n A2Date_c4 A2Date_a7 st (kFin Tryz.prog A2Date_rs Tryz.f45)) r2 x')
    rw [h1] at this
    exact this) n _)
def A2Date_px (n : Nat) (k0 : A2Date_t0 → A2Date_R) (x : (Int × Unit)) : A2Date_R :=
  ((A2year n ((-9999 : Int), ()))).bind fun v1 =>
  bif (decide (x.1 < v1.1)) then
    some ((0 : Int), ((0 : Int), ((0 : Int), ((2 : Int), ()))))
  else
    ((A2year n ((10000 : Int), ()))).bind fun v2 =>
    bif (decide (x.1 ≥ v2.1)) then
      some ((0 : Int), ((0 : Int), ((0 : Int), ((2 : Int), ()))))
    else
      ((A2year n ((-9999 : Int), ()))).bind fun v3 =>
      k0 (x.1, (w64 ((-9999) + (w64 (Int.tdiv (w64 (x.1 - v3.1)) (366 : Int))))))
def A2Date (n : Nat) (x : (Int × Unit)) : A2Date_R := A2Date_px n (A2Date_s0 n) x
theorem A2Date_ex (n : Nat) (rc : RC A2Date_R) (x : (Int × Unit)) : codeR rc Tryz.prog A2Date_sp n (bodyOf Tryz.f45) A2Date_an (start A2Date_ps x (Func.ntmps Tryz.f45)) (kFin Tryz.prog A2Date_rs Tryz.f45) = A2Date_px n (fun y => rc A2Date_c5 A2Date_a1 (A2Date_m0 y) (kFin Tryz.prog A2Date_rs Tryz.f45)) x := by kernel_rfl
theorem A2Date_qx (n : Nat) (x : (Int × Unit)) : codeK Tryz.prog A2Date_sp n (bodyOf Tryz.f45) A2Date_an (start A2Date_ps x (Func.ntmps Tryz.f45)) (kFin Tryz.prog A2Date_rs Tryz.f45) = A2Date n x := by
  have h0 : (fun y => codeK Tryz.prog A2Date_sp n A2Date_c5 A2Date_a1 (A2Date_m0 y) (kFin Tryz.prog A2Date_rs Tryz.f45)) = (A2Date_s0 n) := funext fun y => by
    have := A2Date_q0 n  y
    exact this
  rw [codeK_R, A2Date_ex]
  rw [h0]
  rfl
def A2Date_spec : Sp := ⟨A2Date_ps, A2Date_rs, A2Date⟩
theorem A2Date_ok : SoundX Tryz.prog CX 45 (.f A2Date_spec) := sound_of (look_cons A2year_ok (look_cons A2Long_ok look_nil)) Tryz.func45 (by kernel_rfl) rfl A2Date_an A2Date_spec rfl rfl A2Date_qx

/-! ### noonmark/noonmarkref15.Reach -/
abbrev A5Reach_ps : Ty := (.pair (.int .i64) .unit)
abbrev A5Reach_rs : Ty := (.pair (.int .i64) (.pair .bool .unit))
def A5Reach_sp : Specs := look [(44, .f A2Clock_spec), (45, .f A2Date_spec)]
def A5Reach_an : An := .o
abbrev A5Reach_R := Option (Int × (Bool × Unit))

def A5Reach_px (n : Nat) (x : (Int × Unit)) : A5Reach_R :=
  ((A2Clock n (x.1, ()))).bind fun v1 =>
  ((A2Date n (v1.1, ()))).bind fun v2 =>
  bif (v2.2.2.2.1 == 0) then
    bif (decide (v2.1 ≥ (-9998))) then
      some (v2.1, ((decide (v2.1 ≤ 9998)), ()))
    else
      some (v2.1, (false, ()))
  else
    some (v2.1, (false, ()))
def A5Reach (n : Nat) (x : (Int × Unit)) : A5Reach_R := A5Reach_px n x
theorem A5Reach_ex (n : Nat) (rc : RC A5Reach_R) (x : (Int × Unit)) : codeR rc Tryz.prog A5Reach_sp n (bodyOf Tryz.f25) A5Reach_an (start A5Reach_ps x (Func.ntmps Tryz.f25)) (kFin Tryz.prog A5Reach_rs Tryz.f25) = A5Reach_px n x := by kernel_rfl
theorem A5Reach_qx (n : Nat) (x : (Int × Unit)) : codeK Tryz.prog A5Reach_sp n (bodyOf Tryz.f25) A5Reach_an (start A5Reach_ps x (Func.ntmps Tryz.f25)) (kFin Tryz.prog A5Reach_rs Tryz.f25) = A5Reach n x := by
  rw [codeK_R, A5Reach_ex]
  rfl
def A5Reach_spec : Sp := ⟨A5Reach_ps, A5Reach_rs, A5Reach⟩
theorem A5Reach_ok : SoundX Tryz.prog CX 25 (.f A5Reach_spec) := sound_of (look_cons A2Clock_ok (look_cons A2Date_ok look_nil)) Tryz.func25 (by kernel_rfl) rfl A5Reach_an A5Reach_spec rfl rfl A5Reach_qx

/-! ### noonmark/noonmarkref14.Instant -/
abbrev A4Instant_ps : Ty := (.pair (.list T_api_Rule) (.pair T_EFire (.pair (.int .i64) .unit)))
abbrev A4Instant_rs : Ty := (.pair (.int .i64) .unit)
def A4Instant_sp : Specs := look []
def A4Instant_an : An := .o
abbrev A4Instant_R := Option (Int × Unit)

def A4Instant_px (_n : Nat) (x : ((List D_api_Rule) × (D_EFire × (Int × Unit)))) : A4Instant_R :=
  bif (decide (x.2.1.1 < 0)) then
    some ((0 : Int), ())
  else
    bif (decide (x.2.1.1 ≥ (List.length x.1 : Int))) then
      some ((0 : Int), ())
    else
      bif decide (0 ≤ x.2.1.1) then
        ((x.1[Int.toNat x.2.1.1]?)).bind fun e1 =>
        bif (e1.2.2.2.2.2.1.2.1 == 0) then
          some ((w64 ((w64 (x.2.1.2.2.1 - x.2.2.1)) - x.2.1.2.2.2.1)), ())
        else
          bif (e1.2.2.2.2.2.1.2.1 == 1) then
            some ((w64 (x.2.1.2.2.1 - x.2.2.1)), ())
          else
            some (x.2.1.2.2.1, ())
      else none
def A4Instant (n : Nat) (x : ((List D_api_Rule) × (D_EFire × (Int × Unit)))) : A4Instant_R := A4Instant_px n x
theorem A4Instant_ex (n : Nat) (rc : RC A4Instant_R) (x : ((List D_api_Rule) × (D_EFire × (Int × Unit)))) : codeR rc Tryz.prog A4Instant_sp n (bodyOf Tryz.f71) A4Instant_an (start A4Instant_ps x (Func.ntmps Tryz.f71)) (kFin Tryz.prog A4Instant_rs Tryz.f71) = A4Instant_px n x := by kernel_rfl
theorem A4Instant_qx (n : Nat) (x : ((List D_api_Rule) × (D_EFire × (Int × Unit)))) : codeK Tryz.prog A4Instant_sp n (bodyOf Tryz.f71) A4Instant_an (start A4Instant_ps x (Func.ntmps Tryz.f71)) (kFin Tryz.prog A4Instant_rs Tryz.f71) = A4Instant n x := by
  rw [codeK_R, A4Instant_ex]
  rfl
def A4Instant_spec : Sp := ⟨A4Instant_ps, A4Instant_rs, A4Instant⟩
theorem A4Instant_ok : SoundX Tryz.prog CX 71 (.f A4Instant_spec) := sound_of look_nil Tryz.func71 (by kernel_rfl) rfl A4Instant_an A4Instant_spec rfl rfl A4Instant_qx

/-! ### noonmark/noonmarkref15.Saving -/
abbrev A5Saving_ps : Ty := (.pair (.list T_api_Rule) T_api_At)
abbrev A5Saving_rs : Ty := (.pair (.int .i64) (.pair .str .unit))
def A5Saving_sp : Specs := look [(25, .f A5Reach_spec), (69, .f A4Span_spec), (70, .o A4Year_spec), (71, .f A4Instant_spec), (72, .f A4Letter_spec)]
def A5Saving_an : An := (.s .o (.s .o (.s .o (.k [] [0,1,2,8,9,10] 0 .o (.k [] [0] 0 (.k [] [0,1,2,9,10,13] 0 .o (.b (.l [] [0,1,2,9,10,13] 0 (.k [] [0,1,2,9,10,13] 0 (.k [] [0,1,2,9,10,13,46] 0 .o .o) (.k [] [0,1,2,9,10,13] 0 (.b (.s .o (.k [] [0,1,2,9,10,13,14,15] 1 .o (.b (.l [] [0,1,2,9,10,13,14,15] 1 .o))))) .o))))) .o)))))
abbrev A5Saving_R := Option (Int × (ByteArray × Unit))
noncomputable abbrev A5Saving_c0 : Code := (cr (cr (cr (cr (cr (bodyOf Tryz.f46))))))
noncomputable abbrev A5Saving_c1 : Code := (cr (cr (cl (cl (cr (cl (cr (cr (cr (cr (bodyOf Tryz.f46)))))))))))
noncomputable abbrev A5Saving_c2 : Code := (cl (cl (cr (cr (cl (cl (cr (cl (cl (cr (cl (cr (cr (cr (cr (bodyOf Tryz.f46))))))))))))))))
noncomputable abbrev A5Saving_c3 : Code := (cr (cr (cl (cl (cr (cl (cl (cr (cl (cr (cr (cr (cr (bodyOf Tryz.f46))))))))))))))
noncomputable abbrev A5Saving_c4 : Code := (cr (cl (cl (cr (cl (cr (cr (cr (cr (bodyOf Tryz.f46))))))))))
noncomputable abbrev A5Saving_c5 : Code := (cr (cl (cl (cl (cr (cl (cr (cr (cr (cr (bodyOf Tryz.f46)))))))))))
noncomputable abbrev A5Saving_c6 : Code := (cl (cl (cr (cl (cr (cr (cr (cr (bodyOf Tryz.f46)))))))))
noncomputable abbrev A5Saving_c7 : Code := (cr (cl (cr (cr (cr (cr (bodyOf Tryz.f46)))))))
noncomputable abbrev A5Saving_c8 : Code := (cr (cr (cr (cr (bodyOf Tryz.f46)))))
noncomputable abbrev A5Saving_a0 : An := A5Saving_an.right.right.right.right.right
noncomputable abbrev A5Saving_a1 : An := A5Saving_an.right.right.right.right.left.right.left.left.right.right
noncomputable abbrev A5Saving_a2 : An := A5Saving_an.right.right.right.right
noncomputable abbrev A5Saving_a3 : An := A5Saving_an.right.right.right.right.left.right.left
noncomputable abbrev A5Saving_a4 : An := A5Saving_an.right.right.right.right.left.right.left.left.right.left.left.right.right.left.left
noncomputable abbrev A5Saving_a5 : An := A5Saving_an.right.right.right.right.left.right.left.left.right
noncomputable abbrev A5Saving_a6 : An := A5Saving_an.right.right.right.right.left.right.left.left.right.left.left.right.right.left
noncomputable abbrev A5Saving_a7 : An := A5Saving_an.right.right.right.right.left.right.left.left.right.left.left.right.right
noncomputable abbrev A5Saving_a8 : An := A5Saving_an.right.right.right.right.left.right.left.left.left.right
noncomputable abbrev A5Saving_a9 : An := A5Saving_an.right.right.right.right.left.right.left.left
noncomputable abbrev A5Saving_a10 : An := A5Saving_an.right.right.right.right.left.right
noncomputable abbrev A5Saving_K0 (r3 k1 : St → A5Saving_R) : Ex → St → A5Saving_R := (kSeq r3 A5Saving_a3 (kBlk 0 (kSeq k1 A5Saving_a2 (kFin Tryz.prog A5Saving_rs Tryz.f46))))
noncomputable abbrev A5Saving_K1 (r8 k6 r3 k1 : St → A5Saving_R) : Ex → St → A5Saving_R := (kSeq r8 A5Saving_a6 (kBlk 2 (kBlk 1 (kSeq k6 A5Saving_a5 (kSeq r3 A5Saving_a3 (kBlk 0 (kSeq k1 A5Saving_a2 (kFin Tryz.prog A5Saving_rs Tryz.f46))))))))
noncomputable abbrev A5Saving_K2 (k6 r3 k1 : St → A5Saving_R) : Ex → St → A5Saving_R := (kBlk 1 (kSeq k6 A5Saving_a5 (kSeq r3 A5Saving_a3 (kBlk 0 (kSeq k1 A5Saving_a2 (kFin Tryz.prog A5Saving_rs Tryz.f46))))))
noncomputable abbrev A5Saving_K3 (r3 k1 : St → A5Saving_R) : Ex → St → A5Saving_R := (kSeq r3 A5Saving_a3 (kBlk 0 (kSeq k1 A5Saving_a2 (kFin Tryz.prog A5Saving_rs Tryz.f46))))
noncomputable abbrev A5Saving_K4 (k4 r3 k1 : St → A5Saving_R) : Ex → St → A5Saving_R := (kSeq k4 A5Saving_a9 (kSeq r3 A5Saving_a3 (kBlk 0 (kSeq k1 A5Saving_a2 (kFin Tryz.prog A5Saving_rs Tryz.f46)))))
noncomputable abbrev A5Saving_K5 (r3 k1 : St → A5Saving_R) : Ex → St → A5Saving_R := (kSeq r3 A5Saving_a3 (kBlk 0 (kSeq k1 A5Saving_a2 (kFin Tryz.prog A5Saving_rs Tryz.f46))))
noncomputable abbrev A5Saving_K6 (k1 : St → A5Saving_R) : Ex → St → A5Saving_R := (kSeq k1 A5Saving_a2 (kFin Tryz.prog A5Saving_rs Tryz.f46))
abbrev A5Saving_t0 := (List D_api_Rule) × Int × Int × Int × Bool × Int
def A5Saving_m0 (z : A5Saving_t0) : St := ⟨(.v ⟨(.list T_api_Rule), z.1⟩ :: .v ⟨(.int .i64), z.2.1⟩ :: .v ⟨(.int .i64), z.2.2.1⟩ :: jk 5 (.v ⟨(.int .i64), z.2.2.2.1⟩ :: .v ⟨.bool, z.2.2.2.2.1⟩ :: .v ⟨(.int .i64), z.2.2.2.2.2⟩ :: jk 77 [])), []⟩
abbrev A5Saving_t1 := (List D_api_Rule)
def A5Saving_m1 (z : A5Saving_t1) : St := ⟨(.v ⟨(.list T_api_Rule), z⟩ :: jk 87 []), []⟩
abbrev A5Saving_t2 := (List D_api_Rule) × Int × Int × Bool × Int × Int
def A5Saving_m2 (z : A5Saving_t2) : St := ⟨(.v ⟨(.list T_api_Rule), z.1⟩ :: .v ⟨(.int .i64), z.2.1⟩ :: .v ⟨(.int .i64), z.2.2.1⟩ :: jk 6 (.v ⟨.bool, z.2.2.2.1⟩ :: .v ⟨(.int .i64), z.2.2.2.2.1⟩ :: .junk :: .junk :: .v ⟨(.int .i64), z.2.2.2.2.2⟩ :: jk 74 [])), []⟩
abbrev A5Saving_t3 := (List D_api_Rule) × Int × Int × Bool × Int × Int
def A5Saving_m3 (z : A5Saving_t3) : St := ⟨(.v ⟨(.list T_api_Rule), z.1⟩ :: .v ⟨(.int .i64), z.2.1⟩ :: .v ⟨(.int .i64), z.2.2.1⟩ :: jk 6 (.v ⟨.bool, z.2.2.2.1⟩ :: .v ⟨(.int .i64), z.2.2.2.2.1⟩ :: .junk :: .junk :: .v ⟨(.int .i64), z.2.2.2.2.2⟩ :: jk 74 [])), []⟩
abbrev A5Saving_t4 := (List D_api_Rule) × Int × Int × Bool × Int × Int
def A5Saving_m4 (z : A5Saving_t4) : St := ⟨(.v ⟨(.list T_api_Rule), z.1⟩ :: .v ⟨(.int .i64), z.2.1⟩ :: .v ⟨(.int .i64), z.2.2.1⟩ :: jk 6 (.v ⟨.bool, z.2.2.2.1⟩ :: .v ⟨(.int .i64), z.2.2.2.2.1⟩ :: .junk :: .junk :: .v ⟨(.int .i64), z.2.2.2.2.2⟩ :: jk 74 [])), []⟩
abbrev A5Saving_t5 := (List D_api_Rule) × Int × Int × Bool × Int × Int × Bool
def A5Saving_m5 (z : A5Saving_t5) : St := ⟨(.v ⟨(.list T_api_Rule), z.1⟩ :: .v ⟨(.int .i64), z.2.1⟩ :: .v ⟨(.int .i64), z.2.2.1⟩ :: jk 6 (.v ⟨.bool, z.2.2.2.1⟩ :: .v ⟨(.int .i64), z.2.2.2.2.1⟩ :: .junk :: .junk :: .v ⟨(.int .i64), z.2.2.2.2.2.1⟩ :: jk 32 (.v ⟨.bool, z.2.2.2.2.2.2⟩ :: jk 41 []))), []⟩
abbrev A5Saving_t6 := (List D_api_Rule) × Int × Int × Bool × Int × Int
def A5Saving_m6 (z : A5Saving_t6) : St := ⟨(.v ⟨(.list T_api_Rule), z.1⟩ :: .v ⟨(.int .i64), z.2.1⟩ :: .v ⟨(.int .i64), z.2.2.1⟩ :: jk 6 (.v ⟨.bool, z.2.2.2.1⟩ :: .v ⟨(.int .i64), z.2.2.2.2.1⟩ :: .junk :: .junk :: .v ⟨(.int .i64), z.2.2.2.2.2⟩ :: jk 74 [])), []⟩
abbrev A5Saving_t7 := (List D_api_Rule) × Int × Int × Bool × Int × Int × Int × (List D_EFire)
def A5Saving_m7 (z : A5Saving_t7) : St := ⟨(.v ⟨(.list T_api_Rule), z.1⟩ :: .v ⟨(.int .i64), z.2.1⟩ :: .v ⟨(.int .i64), z.2.2.1⟩ :: jk 6 (.v ⟨.bool, z.2.2.2.1⟩ :: .v ⟨(.int .i64), z.2.2.2.2.1⟩ :: .junk :: .junk :: .v ⟨(.int .i64), z.2.2.2.2.2.1⟩ :: .v ⟨(.sl 0 T_EFire), ()⟩ :: .v ⟨(.int .i64), z.2.2.2.2.2.2.1⟩ :: jk 72 [])), [some (.arr 121 T_EFire z.2.2.2.2.2.2.2)]⟩
abbrev A5Saving_t8 := (List D_api_Rule) × Int × Int × Bool × Int × Int × Int × (List D_EFire)
def A5Saving_m8 (z : A5Saving_t8) : St := ⟨(.v ⟨(.list T_api_Rule), z.1⟩ :: .v ⟨(.int .i64), z.2.1⟩ :: .v ⟨(.int .i64), z.2.2.1⟩ :: jk 6 (.v ⟨.bool, z.2.2.2.1⟩ :: .v ⟨(.int .i64), z.2.2.2.2.1⟩ :: .junk :: .junk :: .v ⟨(.int .i64), z.2.2.2.2.2.1⟩ :: .v ⟨(.sl 0 T_EFire), ()⟩ :: .v ⟨(.int .i64), z.2.2.2.2.2.2.1⟩ :: jk 72 [])), [some (.arr 121 T_EFire z.2.2.2.2.2.2.2)]⟩
def A5Saving_p1 (n : Nat) (z : A5Saving_t1) : A5Saving_R :=
  ((A4Letter n (z, ()))).bind fun v7 =>
  some ((0 : Int), (v7.1, ()))
def A5Saving_s1 (n : Nat) (z : A5Saving_t1) : A5Saving_R := A5Saving_p1 n z
theorem A5Saving_e1 (n : Nat) (rc : RC A5Saving_R) (z : A5Saving_t1) : codeR rc Tryz.prog A5Saving_sp n A5Saving_c0 A5Saving_a0 (A5Saving_m1 z) (kFin Tryz.prog A5Saving_rs Tryz.f46) = A5Saving_p1 n z := by kernel_rfl
theorem A5Saving_q1 (n : Nat) (z : A5Saving_t1) : codeK Tryz.prog A5Saving_sp n A5Saving_c0 A5Saving_a0 (A5Saving_m1 z) (kFin Tryz.prog A5Saving_rs Tryz.f46) = A5Saving_s1 n z := by
  rw [codeK_R, A5Saving_e1]
  rfl
def A5Saving_p6 (_n : Nat) (_k1 : A5Saving_t1 → A5Saving_R) (r3 : A5Saving_t3 → A5Saving_R) (z : A5Saving_t6) : A5Saving_R :=
  r3 (z.1, z.2.1, z.2.2.1, z.2.2.2.1, z.2.2.2.2.1, (w64 (z.2.2.2.2.2 - 1)))
def A5Saving_s6 (n : Nat) (k1 : A5Saving_t1 → A5Saving_R) (r3 : A5Saving_t3 → A5Saving_R) (z : A5Saving_t6) : A5Saving_R := A5Saving_p6 n k1 r3 z
theorem A5Saving_e6 (n : Nat) (k1 : St → A5Saving_R) (r3 : St → A5Saving_R) (rc : RC A5Saving_R) (z : A5Saving_t6) : codeR rc Tryz.prog A5Saving_sp n A5Saving_c1 A5Saving_a1 (A5Saving_m6 z) (A5Saving_K0 r3 k1) = A5Saving_p6 n (fun y => k1 (A5Saving_m1 y)) (fun y => r3 (A5Saving_m3 y)) z := by kernel_rfl
theorem A5Saving_q6 (n : Nat) (k1 : St → A5Saving_R) (r3 : St → A5Saving_R) (z : A5Saving_t6) : codeK Tryz.prog A5Saving_sp n A5Saving_c1 A5Saving_a1 (A5Saving_m6 z) (A5Saving_K0 r3 k1) = A5Saving_s6 n (fun y => k1 (A5Saving_m1 y)) (fun y => r3 (A5Saving_m3 y)) z := by
  rw [codeK_R, A5Saving_e6]
  rfl
def A5Saving_p8 (n : Nat) (_k1 : A5Saving_t1 → A5Saving_R) (_r3 : A5Saving_t3 → A5Saving_R) (k6 : A5Saving_t6 → A5Saving_R) (r8 : A5Saving_t8 → A5Saving_R) (z : A5Saving_t8) : A5Saving_R :=
  bif (decide (z.2.2.2.2.2.2.1 ≥ 0)) then
    bif decide (0 ≤ z.2.2.2.2.2.2.1 ∧ z.2.2.2.2.2.2.1 < (List.length z.2.2.2.2.2.2.2 : Int)) then
      ((z.2.2.2.2.2.2.2[(Int.toNat z.2.2.2.2.2.2.1)]?)).bind fun e11 =>
      ((A4Instant n (z.1, (e11, (z.2.1, ()))))).bind fun v12 =>
      bif (decide (v12.1 ≤ z.2.2.1)) then
        bif decide (0 ≤ z.2.2.2.2.2.2.1 ∧ z.2.2.2.2.2.2.1 < (List.length z.2.2.2.2.2.2.2 : Int)) then
          ((z.2.2.2.2.2.2.2[(Int.toNat z.2.2.2.2.2.2.1)]?)).bind fun e14 =>
          bif decide (0 ≤ e14.1) then
            ((z.1[Int.toNat e14.1]?)).bind fun e15 =>
            bif decide (0 ≤ z.2.2.2.2.2.2.1 ∧ z.2.2.2.2.2.2.1 < (List.length z.2.2.2.2.2.2.2 : Int)) then
              ((z.2.2.2.2.2.2.2[(Int.toNat z.2.2.2.2.2.2.1)]?)).bind fun e17 =>
              bif decide (0 ≤ e17.1) then
                ((z.1[Int.toNat e17.1]?)).bind fun e18 =>
                some (e15.2.2.2.2.2.2.1, (e18.2.2.2.2.2.2.2.1, ()))
              else none
            else none
          else none
        else none
      else
        r8 (z.1, z.2.1, z.2.2.1, z.2.2.2.1, z.2.2.2.2.1, z.2.2.2.2.2.1, (w64 (z.2.2.2.2.2.2.1 - 1)), z.2.2.2.2.2.2.2)
    else none
  else
    k6 (z.1, z.2.1, z.2.2.1, z.2.2.2.1, z.2.2.2.2.1, z.2.2.2.2.2.1)
def A5Saving_s8 (n : Nat) (k1 : A5Saving_t1 → A5Saving_R) (r3 : A5Saving_t3 → A5Saving_R) (k6 : A5Saving_t6 → A5Saving_R) (r8 : A5Saving_t8 → A5Saving_R) (z : A5Saving_t8) : A5Saving_R := A5Saving_p8 n k1 r3 k6 r8 z
theorem A5Saving_e8 (n : Nat) (k1 : St → A5Saving_R) (r3 : St → A5Saving_R) (k6 : St → A5Saving_R) (r8 : St → A5Saving_R) (rc : RC A5Saving_R) (z : A5Saving_t8) : codeR rc Tryz.prog A5Saving_sp n A5Saving_c2 A5Saving_a4 (A5Saving_m8 z) (A5Saving_K1 r8 k6 r3 k1) = A5Saving_p8 n (fun y => k1 (A5Saving_m1 y)) (fun y => r3 (A5Saving_m3 y)) (fun y => k6 (A5Saving_m6 y)) (fun y => r8 (A5Saving_m8 y)) z := by kernel_rfl
theorem A5Saving_q8 (n : Nat) (k1 : St → A5Saving_R) (r3 : St → A5Saving_R) (k6 : St → A5Saving_R) (r8 : St → A5Saving_R) (z : A5Saving_t8) : codeK Tryz.prog A5Saving_sp n A5Saving_c2 A5Saving_a4 (A5Saving_m8 z) (A5Saving_K1 r8 k6 r3 k1) = A5Saving_s8 n (fun y => k1 (A5Saving_m1 y)) (fun y => r3 (A5Saving_m3 y)) (fun y => k6 (A5Saving_m6 y)) (fun y => r8 (A5Saving_m8 y)) z := by
  rw [codeK_R, A5Saving_e8]
  rfl
def A5Saving_s7 (n : Nat) (k1 : A5Saving_t1 → A5Saving_R) (r3 : A5Saving_t3 → A5Saving_R) (k6 : A5Saving_t6 → A5Saving_R) (z : A5Saving_t7) : A5Saving_R :=
  rounds (fun r8 x' => A5Saving_s8 n k1 r3 k6 r8 x') n (z.1, z.2.1, z.2.2.1, z.2.2.2.1, z.2.2.2.2.1, z.2.2.2.2.2.1, z.2.2.2.2.2.2.1, z.2.2.2.2.2.2.2)
theorem A5Saving_q7 (n : Nat) (k1 : St → A5Saving_R) (r3 : St → A5Saving_R) (k6 : St → A5Saving_R) (z : A5Saving_t7) : codeK Tryz.prog A5Saving_sp n A5Saving_c3 A5Saving_a7 (A5Saving_m7 z) (A5Saving_K2 k6 r3 k1) = A5Saving_s7 n (fun y => k1 (A5Saving_m1 y)) (fun y => r3 (A5Saving_m3 y)) (fun y => k6 (A5Saving_m6 y)) z :=
  Eq.trans (b := rounds (fun r8 st => codeK Tryz.prog A5Saving_sp n A5Saving_c2 A5Saving_a4 st (A5Saving_K1 r8 k6 r3 k1)) n (A5Saving_m8 (z.1, z.2.1, z.2.2.1, z.2.2.2.1, z.2.2.2.2.1, z.2.2.2.2.2.1, z.2.2.2.2.2.2.1, z.2.2.2.2.2.2.2))) (by kernel_rfl) (rounds_mk A5Saving_m8 (fun r8 x' => by
    have := (A5Saving_q8 n k1 r3 k6 r8 x')
    exact this) n _)
def A5Saving_p4 (n : Nat) (_k1 : A5Saving_t1 → A5Saving_R) (_r3 : A5Saving_t3 → A5Saving_R) (k6 : A5Saving_t6 → A5Saving_R) (k7 : A5Saving_t7 → A5Saving_R) (z : A5Saving_t4) : A5Saving_R :=
  ((A4Year n (z.1, (z.2.2.2.2.2, ())))).bind fun v8 =>
  k7 (z.1, z.2.1, z.2.2.1, z.2.2.2.1, z.2.2.2.2.1, z.2.2.2.2.2, (w64 ((List.length v8.1 : Int) - 1)), v8.1)
def A5Saving_s4 (n : Nat) (k1 : A5Saving_t1 → A5Saving_R) (r3 : A5Saving_t3 → A5Saving_R) (z : A5Saving_t4) : A5Saving_R := A5Saving_p4 n k1 r3 (A5Saving_s6 n k1 r3) (A5Saving_s7 n k1 r3 (A5Saving_s6 n k1 r3)) z
theorem A5Saving_e4 (n : Nat) (k1 : St → A5Saving_R) (r3 : St → A5Saving_R) (rc : RC A5Saving_R) (z : A5Saving_t4) : codeR rc Tryz.prog A5Saving_sp n A5Saving_c4 A5Saving_a5 (A5Saving_m4 z) (A5Saving_K3 r3 k1) = A5Saving_p4 n (fun y => k1 (A5Saving_m1 y)) (fun y => r3 (A5Saving_m3 y)) (fun y => rc A5Saving_c1 A5Saving_a1 (A5Saving_m6 y) (A5Saving_K0 r3 k1)) (fun y => rc A5Saving_c3 A5Saving_a7 (A5Saving_m7 y) (A5Saving_K2 (fun st => rc A5Saving_c1 A5Saving_a1 st (A5Saving_K0 r3 k1)) r3 k1)) z := by kernel_rfl
theorem A5Saving_q4 (n : Nat) (k1 : St → A5Saving_R) (r3 : St → A5Saving_R) (z : A5Saving_t4) : codeK Tryz.prog A5Saving_sp n A5Saving_c4 A5Saving_a5 (A5Saving_m4 z) (A5Saving_K3 r3 k1) = A5Saving_s4 n (fun y => k1 (A5Saving_m1 y)) (fun y => r3 (A5Saving_m3 y)) z := by
  have h6 : (fun y => codeK Tryz.prog A5Saving_sp n A5Saving_c1 A5Saving_a1 (A5Saving_m6 y) (A5Saving_K0 r3 k1)) = (A5Saving_s6 n (fun y => k1 (A5Saving_m1 y)) (fun y => r3 (A5Saving_m3 y))) := funext fun y => by
    have := A5Saving_q6 n k1 r3 y
    exact this
  have h7 : (fun y => codeK Tryz.prog A5Saving_sp n A5Saving_c3 A5Saving_a7 (A5Saving_m7 y) (A5Saving_K2 (fun st => codeK Tryz.prog A5Saving_sp n A5Saving_c1 A5Saving_a1 st (A5Saving_K0 r3 k1)) r3 k1)) = (A5Saving_s7 n (fun y => k1 (A5Saving_m1 y)) (fun y => r3 (A5Saving_m3 y)) (A5Saving_s6 n (fun y => k1 (A5Saving_m1 y)) (fun y => r3 (A5Saving_m3 y)))) := funext fun y => by
    have := A5Saving_q7 n k1 r3 (fun st => codeK Tryz.prog A5Saving_sp n A5Saving_c1 A5Saving_a1 st (A5Saving_K0 r3 k1)) y
    rw [h6] at this; exact this
  rw [codeK_R, A5Saving_e4]
  rw [h6]
  rw [h7]
  rfl
def A5Saving_p5 (_n : Nat) (k1 : A5Saving_t1 → A5Saving_R) (_r3 : A5Saving_t3 → A5Saving_R) (k4 : A5Saving_t4 → A5Saving_R) (z : A5Saving_t5) : A5Saving_R :=
  bif z.2.2.2.2.2.2 then
    k4 (z.1, z.2.1, z.2.2.1, z.2.2.2.1, z.2.2.2.2.1, z.2.2.2.2.2.1)
  else
    k1 z.1
def A5Saving_s5 (n : Nat) (k1 : A5Saving_t1 → A5Saving_R) (r3 : A5Saving_t3 → A5Saving_R) (k4 : A5Saving_t4 → A5Saving_R) (z : A5Saving_t5) : A5Saving_R := A5Saving_p5 n k1 r3 k4 z
theorem A5Saving_e5 (n : Nat) (k1 : St → A5Saving_R) (r3 : St → A5Saving_R) (k4 : St → A5Saving_R) (rc : RC A5Saving_R) (z : A5Saving_t5) : codeR rc Tryz.prog A5Saving_sp n A5Saving_c5 A5Saving_a8 (A5Saving_m5 z) (A5Saving_K4 k4 r3 k1) = A5Saving_p5 n (fun y => k1 (A5Saving_m1 y)) (fun y => r3 (A5Saving_m3 y)) (fun y => k4 (A5Saving_m4 y)) z := by kernel_rfl
theorem A5Saving_q5 (n : Nat) (k1 : St → A5Saving_R) (r3 : St → A5Saving_R) (k4 : St → A5Saving_R) (z : A5Saving_t5) : codeK Tryz.prog A5Saving_sp n A5Saving_c5 A5Saving_a8 (A5Saving_m5 z) (A5Saving_K4 k4 r3 k1) = A5Saving_s5 n (fun y => k1 (A5Saving_m1 y)) (fun y => r3 (A5Saving_m3 y)) (fun y => k4 (A5Saving_m4 y)) z := by
  rw [codeK_R, A5Saving_e5]
  rfl
def A5Saving_p3 (_n : Nat) (_k1 : A5Saving_t1 → A5Saving_R) (_r3 : A5Saving_t3 → A5Saving_R) (k4 : A5Saving_t4 → A5Saving_R) (k5 : A5Saving_t5 → A5Saving_R) (z : A5Saving_t3) : A5Saving_R :=
  bif z.2.2.2.1 then
    bif (decide ((List.length z.1 : Int) > 0)) then
      k5 (z.1, z.2.1, z.2.2.1, z.2.2.2.1, z.2.2.2.2.1, z.2.2.2.2.2, (decide (z.2.2.2.2.2 ≥ (imax z.2.2.2.2.1 (1 : Int)))))
    else
      k5 (z.1, z.2.1, z.2.2.1, z.2.2.2.1, z.2.2.2.2.1, z.2.2.2.2.2, false)
  else
    k5 (z.1, z.2.1, z.2.2.1, z.2.2.2.1, z.2.2.2.2.1, z.2.2.2.2.2, false)
def A5Saving_s3 (n : Nat) (k1 : A5Saving_t1 → A5Saving_R) (r3 : A5Saving_t3 → A5Saving_R) (z : A5Saving_t3) : A5Saving_R := A5Saving_p3 n k1 r3 (A5Saving_s4 n k1 r3) (A5Saving_s5 n k1 r3 (A5Saving_s4 n k1 r3)) z
theorem A5Saving_e3 (n : Nat) (k1 : St → A5Saving_R) (r3 : St → A5Saving_R) (rc : RC A5Saving_R) (z : A5Saving_t3) : codeR rc Tryz.prog A5Saving_sp n A5Saving_c6 A5Saving_a9 (A5Saving_m3 z) (A5Saving_K5 r3 k1) = A5Saving_p3 n (fun y => k1 (A5Saving_m1 y)) (fun y => r3 (A5Saving_m3 y)) (fun y => rc A5Saving_c4 A5Saving_a5 (A5Saving_m4 y) (A5Saving_K3 r3 k1)) (fun y => rc A5Saving_c5 A5Saving_a8 (A5Saving_m5 y) (A5Saving_K4 (fun st => rc A5Saving_c4 A5Saving_a5 st (A5Saving_K3 r3 k1)) r3 k1)) z := by kernel_rfl
theorem A5Saving_q3 (n : Nat) (k1 : St → A5Saving_R) (r3 : St → A5Saving_R) (z : A5Saving_t3) : codeK Tryz.prog A5Saving_sp n A5Saving_c6 A5Saving_a9 (A5Saving_m3 z) (A5Saving_K5 r3 k1) = A5Saving_s3 n (fun y => k1 (A5Saving_m1 y)) (fun y => r3 (A5Saving_m3 y)) z := by
  have h4 : (fun y => codeK Tryz.prog A5Saving_sp n A5Saving_c4 A5Saving_a5 (A5Saving_m4 y) (A5Saving_K3 r3 k1)) = (A5Saving_s4 n (fun y => k1 (A5Saving_m1 y)) (fun y => r3 (A5Saving_m3 y))) := funext fun y => by
    have := A5Saving_q4 n k1 r3 y
    exact this
  have h5 : (fun y => codeK Tryz.prog A5Saving_sp n A5Saving_c5 A5Saving_a8 (A5Saving_m5 y) (A5Saving_K4 (fun st => codeK Tryz.prog A5Saving_sp n A5Saving_c4 A5Saving_a5 st (A5Saving_K3 r3 k1)) r3 k1)) = (A5Saving_s5 n (fun y => k1 (A5Saving_m1 y)) (fun y => r3 (A5Saving_m3 y)) (A5Saving_s4 n (fun y => k1 (A5Saving_m1 y)) (fun y => r3 (A5Saving_m3 y)))) := funext fun y => by
    have := A5Saving_q5 n k1 r3 (fun st => codeK Tryz.prog A5Saving_sp n A5Saving_c4 A5Saving_a5 st (A5Saving_K3 r3 k1)) y
    rw [h4] at this; exact this
  rw [codeK_R, A5Saving_e3]
  rw [h4]
  rw [h5]
  rfl
def A5Saving_s2 (n : Nat) (k1 : A5Saving_t1 → A5Saving_R) (z : A5Saving_t2) : A5Saving_R :=
  rounds (fun r3 x' => A5Saving_s3 n k1 r3 x') n (z.1, z.2.1, z.2.2.1, z.2.2.2.1, z.2.2.2.2.1, z.2.2.2.2.2)
theorem A5Saving_q2 (n : Nat) (k1 : St → A5Saving_R) (z : A5Saving_t2) : codeK Tryz.prog A5Saving_sp n A5Saving_c7 A5Saving_a10 (A5Saving_m2 z) (A5Saving_K6 k1) = A5Saving_s2 n (fun y => k1 (A5Saving_m1 y)) z :=
  Eq.trans (b := rounds (fun r3 st => codeK Tryz.prog A5Saving_sp n A5Saving_c6 A5Saving_a9 st (A5Saving_K5 r3 k1)) n (A5Saving_m3 (z.1, z.2.1, z.2.2.1, z.2.2.2.1, z.2.2.2.2.1, z.2.2.2.2.2))) (by kernel_rfl) (rounds_mk A5Saving_m3 (fun r3 x' => by
    have := (A5Saving_q3 n k1 r3 x')
    exact this) n _)
def A5Saving_p0 (_n : Nat) (k1 : A5Saving_t1 → A5Saving_R) (k2 : A5Saving_t2 → A5Saving_R) (z : A5Saving_t0) : A5Saving_R :=
  k2 (z.1, z.2.1, z.2.2.1, z.2.2.2.2.1, z.2.2.2.2.2, (imin (w64 (z.2.2.2.1 + 1)) (9999 : Int)))
def A5Saving_s0 (n : Nat) (z : A5Saving_t0) : A5Saving_R := A5Saving_p0 n (A5Saving_s1 n) (A5Saving_s2 n (A5Saving_s1 n)) z
theorem A5Saving_e0 (n : Nat) (rc : RC A5Saving_R) (z : A5Saving_t0) : codeR rc Tryz.prog A5Saving_sp n A5Saving_c8 A5Saving_a2 (A5Saving_m0 z) (kFin Tryz.prog A5Saving_rs Tryz.f46) = A5Saving_p0 n (fun y => rc A5Saving_c0 A5Saving_a0 (A5Saving_m1 y) (kFin Tryz.prog A5Saving_rs Tryz.f46)) (fun y => rc A5Saving_c7 A5Saving_a10 (A5Saving_m2 y) (A5Saving_K6 (fun st => rc A5Saving_c0 A5Saving_a0 st (kFin Tryz.prog A5Saving_rs Tryz.f46)))) z := by kernel_rfl
theorem A5Saving_q0 (n : Nat) (z : A5Saving_t0) : codeK Tryz.prog A5Saving_sp n A5Saving_c8 A5Saving_a2 (A5Saving_m0 z) (kFin Tryz.prog A5Saving_rs Tryz.f46) = A5Saving_s0 n z := by
  have h1 : (fun y => codeK Tryz.prog A5Saving_sp n A5Saving_c0 A5Saving_a0 (A5Saving_m1 y) (kFin Tryz.prog A5Saving_rs Tryz.f46)) = (A5Saving_s1 n) := funext fun y => by
    have := A5Saving_q1 n  y
    exact this
  have h2 : (fun y => codeK Tryz.prog A5Saving_sp n A5Saving_c7 A5Saving_a10 (A5Saving_m2 y) (A5Saving_K6 (fun st => codeK Tryz.prog A5Saving_sp n A5Saving_c0 A5Saving_a0 st (kFin Tryz.prog A5Saving_rs Tryz.f46)))) = (A5Saving_s2 n (A5Saving_s1 n)) := funext fun y => by
    have := A5Saving_q2 n (fun st => codeK Tryz.prog A5Saving_sp n A5Saving_c0 A5Saving_a0 st (kFin Tryz.prog A5Saving_rs Tryz.f46)) y
    rw [h1] at this; exact this
  rw [codeK_R, A5Saving_e0]
  rw [h1]
  rw [h2]
  rfl
def A5Saving_px (n : Nat) (k0 : A5Saving_t0 → A5Saving_R) (x : ((List D_api_Rule) × D_api_At)) : A5Saving_R :=
  ((A5Reach n (x.2.2.1, ()))).bind fun v1 =>
  ((A4Span n (x.1, ()))).bind fun v2 =>
  bif (!v2.2.2.1) then
    k0 (x.1, x.2.1, x.2.2.1, (imin v1.1 v2.2.1), v1.2.1, v2.1)
  else
    k0 (x.1, x.2.1, x.2.2.1, v1.1, v1.2.1, v2.1)
def A5Saving (n : Nat) (x : ((List D_api_Rule) × D_api_At)) : A5Saving_R := A5Saving_px n (A5Saving_s0 n) x
theorem A5Saving_ex (n : Nat) (rc : RC A5Saving_R) (x : ((List D_api_Rule) × D_api_At)) : codeR rc Tryz.prog A5Saving_sp n (bodyOf Tryz.f46) A5Saving_an (start A5Saving_ps x (Func.ntmps Tryz.f46)) (kFin Tryz.prog A5Saving_rs Tryz.f46) = A5Saving_px n (fun y => rc A5Saving_c8 A5Saving_a2 (A5Saving_m0 y) (kFin Tryz.prog A5Saving_rs Tryz.f46)) x := by kernel_rfl
theorem A5Saving_qx (n : Nat) (x : ((List D_api_Rule) × D_api_At)) : codeK Tryz.prog A5Saving_sp n (bodyOf Tryz.f46) A5Saving_an (start A5Saving_ps x (Func.ntmps Tryz.f46)) (kFin Tryz.prog A5Saving_rs Tryz.f46) = A5Saving n x := by
  have h0 : (fun y => codeK Tryz.prog A5Saving_sp n A5Saving_c8 A5Saving_a2 (A5Saving_m0 y) (kFin Tryz.prog A5Saving_rs Tryz.f46)) = (A5Saving_s0 n) := funext fun y => by
    have := A5Saving_q0 n  y
    exact this
  rw [codeK_R, A5Saving_ex]
  rw [h0]
  rfl
def A5Saving_spec : Sp := ⟨A5Saving_ps, A5Saving_rs, A5Saving⟩
theorem A5Saving_ok : SoundX Tryz.prog CX 46 (.f A5Saving_spec) := sound_of (look_cons A5Reach_ok (look_cons A4Span_ok (look_cons A4Year_ok (look_cons A4Instant_ok (look_cons A4Letter_ok look_nil))))) Tryz.func46 (by kernel_rfl) rfl A5Saving_an A5Saving_spec rfl rfl A5Saving_qx

/-! ### (noonmark/noonmarkref15.Zone).saving -/
abbrev A5Zone_saving_ps : Ty := (.pair T_A5Zone T_api_At)
abbrev A5Zone_saving_rs : Ty := (.pair (.int .i64) (.pair .str .unit))
def A5Zone_saving_sp : Specs := look [(46, .f A5Saving_spec)]
def A5Zone_saving_an : An := .o
abbrev A5Zone_saving_R := Option (Int × (ByteArray × Unit))
noncomputable abbrev A5Zone_saving_K0 : Ex → St → A5Zone_saving_R := (kFin Tryz.prog A5Zone_saving_rs Tryz.f27)
def A5Zone_saving_px (n : Nat) (x : (D_A5Zone × D_api_At)) : A5Zone_saving_R :=
  bif decide (0 ≤ x.2.1) then
    ((x.1.1[Int.toNat x.2.1]?)).bind fun e1 =>
    bif (e1.2.1 == 1) then
      some (e1.2.2.1, ((⟨#[]⟩ : ByteArray), ()))
    else
      bif (e1.2.1 == 2) then
        bif decide (0 ≤ x.2.1) then
          ((x.1.2.1[Int.toNat x.2.1]?)).bind fun e2 =>
          ((A5Saving n (e2, (e1.1, (x.2.2.1, ()))))).bind fun v3 =>
          some (v3.1, (v3.2.1, ()))
        else none
      else
        some ((0 : Int), ((⟨#[]⟩ : ByteArray), ()))
  else none
def A5Zone_saving (n : Nat) (x : (D_A5Zone × D_api_At)) : A5Zone_saving_R := A5Zone_saving_px n x
theorem A5Zone_saving_ex (n : Nat) (rc : RC A5Zone_saving_R) (x : (D_A5Zone × D_api_At)) : codeR rc Tryz.prog A5Zone_saving_sp n (bodyOf Tryz.f27) A5Zone_saving_an (start A5Zone_saving_ps x (Func.ntmps Tryz.f27)) A5Zone_saving_K0 = A5Zone_saving_px n x := by kernel_rfl
theorem A5Zone_saving_qx (n : Nat) (x : (D_A5Zone × D_api_At)) : codeK Tryz.prog A5Zone_saving_sp n (bodyOf Tryz.f27) A5Zone_saving_an (start A5Zone_saving_ps x (Func.ntmps Tryz.f27)) A5Zone_saving_K0 = A5Zone_saving n x := by
  rw [codeK_R, A5Zone_saving_ex]
  rfl
def A5Zone_saving_spec : Sp := ⟨A5Zone_saving_ps, A5Zone_saving_rs, A5Zone_saving⟩
theorem A5Zone_saving_ok : SoundX Tryz.prog CX 27 (.f A5Zone_saving_spec) := sound_of (look_cons A5Saving_ok look_nil) Tryz.func27 (by kernel_rfl) rfl A5Zone_saving_an A5Zone_saving_spec rfl rfl A5Zone_saving_qx

/-! ### noonmark/noonmarkref15.clock -/
abbrev A5clock_ps : Ty := (.pair T_api_Until .unit)
abbrev A5clock_rs : Ty := (.pair (.int .i64) (.pair .bool .unit))
def A5clock_sp : Specs := look [(66, .f A3Of_spec)]
def A5clock_an : An := .o
abbrev A5clock_R := Option (Int × (Bool × Unit))

def A5clock_px (n : Nat) (x : (D_api_Until × Unit)) : A5clock_R :=
  ((A3Of n (x.1.2.2.2.1, (x.1.2.1, (x.1.2.2.1, ()))))).bind fun v1 =>
  let t3 := w64 ((w64 (v1.1 * 86400)) + x.1.2.2.2.2.1.1)
  bif (v1.2.1 == 0) then
    bif (decide (x.1.2.1 ≥ 1)) then
      some (t3, ((decide (x.1.2.1 ≤ 9999)), ()))
    else
      some (t3, (false, ()))
  else
    some (t3, (false, ()))
def A5clock (n : Nat) (x : (D_api_Until × Unit)) : A5clock_R := A5clock_px n x
theorem A5clock_ex (n : Nat) (rc : RC A5clock_R) (x : (D_api_Until × Unit)) : codeR rc Tryz.prog A5clock_sp n (bodyOf Tryz.f43) A5clock_an (start A5clock_ps x (Func.ntmps Tryz.f43)) (kFin Tryz.prog A5clock_rs Tryz.f43) = A5clock_px n x := by kernel_rfl
theorem A5clock_qx (n : Nat) (x : (D_api_Until × Unit)) : codeK Tryz.prog A5clock_sp n (bodyOf Tryz.f43) A5clock_an (start A5clock_ps x (Func.ntmps Tryz.f43)) (kFin Tryz.prog A5clock_rs Tryz.f43) = A5clock n x := by
  rw [codeK_R, A5clock_ex]
  rfl
def A5clock_spec : Sp := ⟨A5clock_ps, A5clock_rs, A5clock⟩
theorem A5clock_ok : SoundX Tryz.prog CX 43 (.f A5clock_spec) := sound_of (look_cons A3Of_ok look_nil) Tryz.func43 (by kernel_rfl) rfl A5clock_an A5clock_spec rfl rfl A5clock_qx

/-! ### noonmark/noonmarkref15.End -/
abbrev A5End_ps : Ty := (.pair T_A5Zone (.pair (.int .i64) .unit))
abbrev A5End_rs : Ty := (.pair (.int .i64) .unit)
def A5End_sp : Specs := look [(27, .f A5Zone_saving_spec), (43, .f A5clock_spec)]
def A5End_an : An := (.s .o (.k [] [1,2] 1 (.k [] [1,2,27] 1 .o .o) (.s .o (.s .o (.s .o (.k [] [6] 0 (.s .o (.b (.s .o (.c (.s .o (.k [] [5,6,8] 2 .o .o)) .o)))) .o))))))
abbrev A5End_R := Option (Int × Unit)
noncomputable abbrev A5End_c0 : Code := (cr (cr (cr (cr (cr (cr (bodyOf Tryz.f26)))))))
noncomputable abbrev A5End_c1 : Code := (cr (cr (cl (cr (cl (cr (cl (cr (cr (cr (cr (cr (bodyOf Tryz.f26)))))))))))))
noncomputable abbrev A5End_c2 : Code := (cr (cr (bodyOf Tryz.f26)))
noncomputable abbrev A5End_c3 : Code := (cr (cl (cr (bodyOf Tryz.f26))))
noncomputable abbrev A5End_a0 : An := A5End_an.right.right.right.right.right.right
noncomputable abbrev A5End_a1 : An := A5End_an.right.right.right.right.right.left.right.left.right.left.right.right
noncomputable abbrev A5End_a2 : An := A5End_an.right.right.right.right.right
noncomputable abbrev A5End_a3 : An := A5End_an.right.right
noncomputable abbrev A5End_a4 : An := A5End_an.right.left.right
noncomputable abbrev A5End_K0 (k2 : St → A5End_R) : Ex → St → A5End_R := (kBlk 0 (kSeq k2 A5End_a2 (kFin Tryz.prog A5End_rs Tryz.f26)))
noncomputable abbrev A5End_K1 (k0 : St → A5End_R) : Ex → St → A5End_R := (kSeq k0 A5End_an.right (kFin Tryz.prog A5End_rs Tryz.f26))
abbrev A5End_t0 := Int × D_A5Zone
def A5End_m0 (z : A5End_t0) : St := ⟨(.junk :: .v ⟨(.int .i64), z.1⟩ :: .v ⟨(.ptr 0 0 T_A5Zone), ()⟩ :: jk 78 []), [some (.one ⟨T_A5Zone, z.2⟩)]⟩
abbrev A5End_t1 := Int × Bool × D_A5Zone
def A5End_m1 (z : A5End_t1) : St := ⟨(.junk :: .v ⟨(.int .i64), z.1⟩ :: .v ⟨(.ptr 0 0 T_A5Zone), ()⟩ :: jk 24 (.v ⟨.bool, z.2.1⟩ :: jk 53 [])), [some (.one ⟨T_A5Zone, z.2.2⟩)]⟩
abbrev A5End_t2 := Int
def A5End_m2 (z : A5End_t2) : St := ⟨(jk 6 (.v ⟨(.int .i64), z⟩ :: jk 74 [])), []⟩
abbrev A5End_t3 := Int × Int × D_A5Zone × D_api_Era
def A5End_m3 (z : A5End_t3) : St := ⟨(jk 5 (.v ⟨(.ptr 1 0 T_api_Era), ()⟩ :: .v ⟨(.int .i64), z.1⟩ :: .junk :: .v ⟨(.int .i64), z.2.1⟩ :: jk 72 [])), [some (.one ⟨T_A5Zone, z.2.2.1⟩), some (.one ⟨T_api_Era, z.2.2.2⟩)]⟩
def A5End_p2 (_n : Nat) (z : A5End_t2) : A5End_R :=
  some (z, ())
def A5End_s2 (n : Nat) (z : A5End_t2) : A5End_R := A5End_p2 n z
theorem A5End_e2 (n : Nat) (rc : RC A5End_R) (z : A5End_t2) : codeR rc Tryz.prog A5End_sp n A5End_c0 A5End_a0 (A5End_m2 z) (kFin Tryz.prog A5End_rs Tryz.f26) = A5End_p2 n z := by kernel_rfl
theorem A5End_q2 (n : Nat) (z : A5End_t2) : codeK Tryz.prog A5End_sp n A5End_c0 A5End_a0 (A5End_m2 z) (kFin Tryz.prog A5End_rs Tryz.f26) = A5End_s2 n z := by
  rw [codeK_R, A5End_e2]
  rfl
def A5End_p3 (_n : Nat) (_k2 : A5End_t2 → A5End_R) (z : A5End_t3) : A5End_R :=
  some ((w64 ((w64 (z.1 - z.2.2.2.1)) - z.2.1)), ())
def A5End_s3 (n : Nat) (k2 : A5End_t2 → A5End_R) (z : A5End_t3) : A5End_R := A5End_p3 n k2 z
theorem A5End_e3 (n : Nat) (k2 : St → A5End_R) (rc : RC A5End_R) (z : A5End_t3) : codeR rc Tryz.prog A5End_sp n A5End_c1 A5End_a1 (A5End_m3 z) (A5End_K0 k2) = A5End_p3 n (fun y => k2 (A5End_m2 y)) z := by kernel_rfl
theorem A5End_q3 (n : Nat) (k2 : St → A5End_R) (z : A5End_t3) : codeK Tryz.prog A5End_sp n A5End_c1 A5End_a1 (A5End_m3 z) (A5End_K0 k2) = A5End_s3 n (fun y => k2 (A5End_m2 y)) z := by
  rw [codeK_R, A5End_e3]
  rfl
def A5End_p0 (n : Nat) (k2 : A5End_t2 → A5End_R) (k3 : A5End_t3 → A5End_R) (z : A5End_t0) : A5End_R :=
  bif decide (0 ≤ z.1) then
    ((z.2.1[Int.toNat z.1]?)).bind fun e2 =>
    ((A5clock n (e2.2.2.2.2.2.1, ()))).bind fun v3 =>
    bif (!v3.2.1) then
      some ((0 : Int), ())
    else
      bif (e2.2.2.2.2.2.1.2.2.2.2.1.2.1 == 0) then
        bif (decide (z.1 < (List.length z.2.2.1 : Int))) then
          ((A5Zone_saving n (z.2, (z.1, ((w64 ((w64 (v3.1 - e2.1)) - 1)), ()))))).bind fun v6 =>
          k3 (v3.1, v6.1, z.2, e2)
        else
          bif (e2.2.1 != 2) then
            ((A5Zone_saving n (z.2, (z.1, ((w64 ((w64 (v3.1 - e2.1)) - 1)), ()))))).bind fun v9 =>
            k3 (v3.1, v9.1, z.2, e2)
          else
            k3 (v3.1, (0 : Int), z.2, e2)
      else
        bif (e2.2.2.2.2.2.1.2.2.2.2.1.2.1 == 1) then
          some ((w64 (v3.1 - e2.1)), ())
        else
          k2 v3.1
  else none
def A5End_s0 (n : Nat) (z : A5End_t0) : A5End_R := A5End_p0 n (A5End_s2 n) (A5End_s3 n (A5End_s2 n)) z
theorem A5End_e0 (n : Nat) (rc : RC A5End_R) (z : A5End_t0) : codeR rc Tryz.prog A5End_sp n A5End_c2 A5End_a3 (A5End_m0 z) (kFin Tryz.prog A5End_rs Tryz.f26) = A5End_p0 n (fun y => rc A5End_c0 A5End_a0 (A5End_m2 y) (kFin Tryz.prog A5End_rs Tryz.f26)) (fun y => rc A5End_c1 A5End_a1 (A5End_m3 y) (A5End_K0 (fun st => rc A5End_c0 A5End_a0 st (kFin Tryz.prog A5End_rs Tryz.f26)))) z := by kernel_rfl
theorem A5End_q0 (n : Nat) (z : A5End_t0) : codeK Tryz.prog A5End_sp n A5End_c2 A5End_a3 (A5End_m0 z) (kFin Tryz.prog A5End_rs Tryz.f26) = A5End_s0 n z := by
  have h2 : (fun y => codeK Tryz.prog A5End_sp n A5End_c0 A5End_a0 (A5End_m2 y) (kFin Tryz.prog A5End_rs Tryz.f26)) = (A5End_s2 n) := funext fun y => by
    have := A5End_q2 n  y
    exact this
  have h3 : (fun y => codeK Tryz.prog A5End_sp n A5End_c1 A5End_a1 (A5End_m3 y) (A5End_K0 (fun st => codeK Tryz.prog A5End_sp n A5End_c0 A5End_a0 st (kFin Tryz.prog A5End_rs Tryz.f26)))) = (A5End_s3 n (A5End_s2 n)) := funext fun y => by
    have := A5End_q3 n (fun st => codeK Tryz.prog A5End_sp n A5End_c0 A5End_a0 st (kFin Tryz.prog A5End_rs Tryz.f26)) y
    rw [h2] at this; exact this
  rw [codeK_R, A5End_e0]
  rw [h2]
  rw [h3]
  rfl
def A5End_p1 (_n : Nat) (k0 : A5End_t0 → A5End_R) (z : A5End_t1) : A5End_R :=
  bif z.2.1 then
    some ((0 : Int), ())
  else
    k0 (z.1, z.2.2)
def A5End_s1 (n : Nat) (k0 : A5End_t0 → A5End_R) (z : A5End_t1) : A5End_R := A5End_p1 n k0 z
theorem A5End_e1 (n : Nat) (k0 : St → A5End_R) (rc : RC A5End_R) (z : A5End_t1) : codeR rc Tryz.prog A5End_sp n A5End_c3 A5End_a4 (A5End_m1 z) (A5End_K1 k0) = A5End_p1 n (fun y => k0 (A5End_m0 y)) z := by kernel_rfl
theorem A5End_q1 (n : Nat) (k0 : St → A5End_R) (z : A5End_t1) : codeK Tryz.prog A5End_sp n A5End_c3 A5End_a4 (A5End_m1 z) (A5End_K1 k0) = A5End_s1 n (fun y => k0 (A5End_m0 y)) z := by
  rw [codeK_R, A5End_e1]
  rfl
def A5End_px (_n : Nat) (k0 : A5End_t0 → A5End_R) (k1 : A5End_t1 → A5End_R) (x : (D_A5Zone × (Int × Unit))) : A5End_R :=
  bif (decide (x.2.1 < 0)) then
    k1 (x.2.1, true, x.1)
  else
    bif (decide (x.2.1 ≥ (List.length x.1.1 : Int))) then
      k1 (x.2.1, true, x.1)
    else
      bif decide (0 ≤ x.2.1) then
        ((x.1.1[Int.toNat x.2.1]?)).bind fun e1 =>
        k1 (x.2.1, (!e1.2.2.2.2.2.1.1), x.1)
      else none
def A5End (n : Nat) (x : (D_A5Zone × (Int × Unit))) : A5End_R := A5End_px n (A5End_s0 n) (A5End_s1 n (A5End_s0 n)) x
theorem A5End_ex (n : Nat) (rc : RC A5End_R) (x : (D_A5Zone × (Int × Unit))) : codeR rc Tryz.prog A5End_sp n (bodyOf Tryz.f26) A5End_an (start A5End_ps x (Func.ntmps Tryz.f26)) (kFin Tryz.prog A5End_rs Tryz.f26) = A5End_px n (fun y => rc A5End_c2 A5End_a3 (A5End_m0 y) (kFin Tryz.prog A5End_rs Tryz.f26)) (fun y => rc A5End_c3 A5End_a4 (A5End_m1 y) (A5End_K1 (fun st => rc A5End_c2 A5End_a3 st (kFin Tryz.prog A5End_rs Tryz.f26)))) x := by kernel_rfl
theorem A5End_qx (n : Nat) (x : (D_A5Zone × (Int × Unit))) : codeK Tryz.prog A5End_sp n (bodyOf Tryz.f26) A5End_an (start A5End_ps x (Func.ntmps Tryz.f26)) (kFin Tryz.prog A5End_rs Tryz.f26) = A5End n x := by
  have h0 : (fun y => codeK Tryz.prog A5End_sp n A5End_c2 A5End_a3 (A5End_m0 y) (kFin Tryz.prog A5End_rs Tryz.f26)) = (A5End_s0 n) := funext fun y => by
    have := A5End_q0 n  y
    exact this
  have h1 : (fun y => codeK Tryz.prog A5End_sp n A5End_c3 A5End_a4 (A5End_m1 y) (A5End_K1 (fun st => codeK Tryz.prog A5End_sp n A5End_c2 A5End_a3 st (kFin Tryz.prog A5End_rs Tryz.f26)))) = (A5End_s1 n (A5End_s0 n)) := funext fun y => by
    have := A5End_q1 n (fun st => codeK Tryz.prog A5End_sp n A5End_c2 A5End_a3 st (kFin Tryz.prog A5End_rs Tryz.f26)) y
    rw [h0] at this; exact this
  rw [codeK_R, A5End_ex]
  rw [h0]
  rw [h1]
  rfl
def A5End_spec : Sp := ⟨A5End_ps, A5End_rs, A5End⟩
theorem A5End_ok : SoundX Tryz.prog CX 26 (.f A5End_spec) := sound_of (look_cons A5Zone_saving_ok (look_cons A5clock_ok look_nil)) Tryz.func26 (by kernel_rfl) rfl A5End_an A5End_spec rfl rfl A5End_qx

/-! ### noonmark/noonmarkref15.within -/
abbrev A5within_ps : Ty := T_api_At
abbrev A5within_rs : Ty := (.pair .bool .unit)
def A5within_sp : Specs := look []
def A5within_an : An := .o
abbrev A5within_R := Option (Bool × Unit)

def A5within_px (_n : Nat) (x : D_api_At) : A5within_R :=
  bif (decide (x.1 ≥ (w64 (0 - x.2.1)))) then
    some ((decide (x.1 ≤ x.2.1)), ())
  else
    some (false, ())
def A5within (n : Nat) (x : D_api_At) : A5within_R := A5within_px n x
theorem A5within_ex (n : Nat) (rc : RC A5within_R) (x : D_api_At) : codeR rc Tryz.prog A5within_sp n (bodyOf Tryz.f42) A5within_an (start A5within_ps x (Func.ntmps Tryz.f42)) (kFin Tryz.prog A5within_rs Tryz.f42) = A5within_px n x := by kernel_rfl
theorem A5within_qx (n : Nat) (x : D_api_At) : codeK Tryz.prog A5within_sp n (bodyOf Tryz.f42) A5within_an (start A5within_ps x (Func.ntmps Tryz.f42)) (kFin Tryz.prog A5within_rs Tryz.f42) = A5within n x := by
  rw [codeK_R, A5within_ex]
  rfl
def A5within_spec : Sp := ⟨A5within_ps, A5within_rs, A5within⟩
theorem A5within_ok : SoundX Tryz.prog CX 42 (.f A5within_spec) := sound_of look_nil Tryz.func42 (by kernel_rfl) rfl A5within_an A5within_spec rfl rfl A5within_qx

/-! ### noonmark/noonmarkref15.Right -/
abbrev A5Right_ps : Ty := (.pair T_A5Zone .unit)
abbrev A5Right_rs : Ty := (.pair (.int .i64) .unit)
def A5Right_sp : Specs := look [(26, .f A5End_spec), (42, .f A5within_spec), (43, .f A5clock_spec)]
def A5Right_an : An := (.s .o (.s .o (.k [] [1,3] 1 (.k [] [1,3,27] 1 .o .o) (.k [] [1,3] 1 (.k [] [1,3,4] 1 .o (.b (.l [] [1,3,4] 1 (.s .o (.k [] [1,3,4] 1 (.b (.s .o (.k [] [1,3,4,5] 2 (.k [] [1,3,4,5,71] 2 .o .o) (.k [] [1,3,4,5] 2 (.k [] [1,3,4,5,6] 2 .o (.b (.l [] [1,3,4,5,6] 2 (.s .o (.k [] [1,3,4,5,6] 2 (.b (.s .o (.k [] [1,3,4,5,6,112] 2 .o .o))) .o))))) (.s .o (.c (.s .o (.k [] [1,3,4,145] 1 .o .o)) .o)))))) .o))))) (.k [] [1,3] 1 (.k [] [1,3,10] 1 .o (.b (.l [] [1,3,10] 1 .o))) (.k [] [] 0 (.k [] [1,3,11] 1 .o (.b (.l [] [1,3,11] 1 .o))) .o))))))
abbrev A5Right_R := Option (Int × Unit)
noncomputable abbrev A5Right_c0 : Code := (cr (cr (cr (cr (cr (cr (bodyOf Tryz.f24)))))))
noncomputable abbrev A5Right_c1 : Code := (cl (cl (cr (cl (cr (cr (cr (cr (cr (bodyOf Tryz.f24))))))))))
noncomputable abbrev A5Right_c2 : Code := (cr (cl (cr (cr (cr (cr (cr (bodyOf Tryz.f24))))))))
noncomputable abbrev A5Right_c3 : Code := (cr (cr (cr (cr (cr (bodyOf Tryz.f24))))))
noncomputable abbrev A5Right_c4 : Code := (cl (cl (cr (cl (cr (cr (cr (cr (bodyOf Tryz.f24)))))))))
noncomputable abbrev A5Right_c5 : Code := (cr (cl (cr (cr (cr (cr (bodyOf Tryz.f24)))))))
noncomputable abbrev A5Right_c6 : Code := (cr (cr (cr (cr (bodyOf Tryz.f24)))))
noncomputable abbrev A5Right_c7 : Code := (cr (cr (cl (cl (cr (cl (cr (cr (cr (bodyOf Tryz.f24))))))))))
noncomputable abbrev A5Right_c8 : Code := (cr (cr (cl (cr (cr (cr (cr (cl (cl (cr (cl (cl (cr (cl (cr (cr (cr (bodyOf Tryz.f24))))))))))))))))))
noncomputable abbrev A5Right_c9 : Code := (cr (cr (cr (cl (cl (cr (cl (cl (cr (cl (cr (cr (cr (bodyOf Tryz.f24))))))))))))))
noncomputable abbrev A5Right_c10 : Code := (cr (cr (cl (cl (cr (cl (cr (cr (cl (cl (cr (cl (cl (cr (cl (cr (cr (cr (bodyOf Tryz.f24)))))))))))))))))))
noncomputable abbrev A5Right_c11 : Code := (cr (cr (cl (cl (cr (cl (cl (cr (cl (cr (cr (cl (cl (cr (cl (cl (cr (cl (cr (cr (cr (bodyOf Tryz.f24))))))))))))))))))))))
noncomputable abbrev A5Right_c12 : Code := (cl (cl (cr (cl (cr (cr (cl (cl (cr (cl (cl (cr (cl (cr (cr (cr (bodyOf Tryz.f24)))))))))))))))))
noncomputable abbrev A5Right_c13 : Code := (cr (cl (cr (cr (cl (cl (cr (cl (cl (cr (cl (cr (cr (cr (bodyOf Tryz.f24)))))))))))))))
noncomputable abbrev A5Right_c14 : Code := (cr (cr (cl (cl (cr (cl (cl (cr (cl (cr (cr (cr (bodyOf Tryz.f24)))))))))))))
noncomputable abbrev A5Right_c15 : Code := (cr (cl (cr (cl (cl (cr (cl (cl (cr (cl (cr (cr (cr (bodyOf Tryz.f24))))))))))))))
noncomputable abbrev A5Right_c16 : Code := (cl (cl (cr (cl (cr (cr (cr (bodyOf Tryz.f24))))))))
noncomputable abbrev A5Right_c17 : Code := (cr (cl (cr (cr (cr (bodyOf Tryz.f24))))))
noncomputable abbrev A5Right_c18 : Code := (cr (cr (cr (bodyOf Tryz.f24))))
noncomputable abbrev A5Right_c19 : Code := (cr (cl (cr (cr (bodyOf Tryz.f24)))))
noncomputable abbrev A5Right_a0 : An := A5Right_an.right.right.right.right.right.right
noncomputable abbrev A5Right_a1 : An := A5Right_an.right.right.right.right.right.left.right.left.left
noncomputable abbrev A5Right_a2 : An := A5Right_an.right.right.right.right.right
noncomputable abbrev A5Right_a3 : An := A5Right_an.right.right.right.right.right.left.right.left
noncomputable abbrev A5Right_a4 : An := A5Right_an.right.right.right.right.right.left.right
noncomputable abbrev A5Right_a5 : An := A5Right_an.right.right.right.right.left.right.left.left
noncomputable abbrev A5Right_a6 : An := A5Right_an.right.right.right.right
noncomputable abbrev A5Right_a7 : An := A5Right_an.right.right.right.right.left.right.left
noncomputable abbrev A5Right_a8 : An := A5Right_an.right.right.right.right.left.right
noncomputable abbrev A5Right_a9 : An := A5Right_an.right.right.right.left.right.left.left.right.right
noncomputable abbrev A5Right_a10 : An := A5Right_an.right.right.right
noncomputable abbrev A5Right_a11 : An := A5Right_an.right.right.right.left.right.left
noncomputable abbrev A5Right_a12 : An := A5Right_an.right.right.right.left.right.left.left.right.left.left.right.right.right.right.left.right.right
noncomputable abbrev A5Right_a13 : An := A5Right_an.right.right.right.left.right.left.left.right
noncomputable abbrev A5Right_a14 : An := A5Right_an.right.right.right.left.right.left.left.right.left.left.right.right.right
noncomputable abbrev A5Right_a15 : An := A5Right_an.right.right.right.left.right.left.left.right.left.left.right.right.left.right.left.left.right.right
noncomputable abbrev A5Right_a16 : An := A5Right_an.right.right.right.left.right.left.left.right.left.left.right.right
noncomputable abbrev A5Right_a17 : An := A5Right_an.right.right.right.left.right.left.left.right.left.left.right.right.left.right.left
noncomputable abbrev A5Right_a18 : An := A5Right_an.right.right.right.left.right.left.left.right.left.left.right.right.left.right.left.left.right.left.left.right.right
noncomputable abbrev A5Right_a19 : An := A5Right_an.right.right.right.left.right.left.left.right.left.left.right.right.left.right.left.left.right
noncomputable abbrev A5Right_a20 : An := A5Right_an.right.right.right.left.right.left.left.right.left.left.right.right.left.right.left.left
noncomputable abbrev A5Right_a21 : An := A5Right_an.right.right.right.left.right.left.left.right.left.left.right.right.left.right
noncomputable abbrev A5Right_a22 : An := A5Right_an.right.right.right.left.right.left.left.right.left.left.right.left.right
noncomputable abbrev A5Right_a23 : An := A5Right_an.right.right.right.left.right.left.left.right.left.left.right
noncomputable abbrev A5Right_a24 : An := A5Right_an.right.right.right.left.right.left.left
noncomputable abbrev A5Right_a25 : An := A5Right_an.right.right.right.left.right
noncomputable abbrev A5Right_a26 : An := A5Right_an.right.right.left.right
noncomputable abbrev A5Right_a27 : An := A5Right_an.right.right
noncomputable abbrev A5Right_K0 (r19 k14 : St → A5Right_R) : Ex → St → A5Right_R := (kSeq r19 A5Right_a3 (kBlk 6 (kSeq k14 A5Right_a2 (kFin Tryz.prog A5Right_rs Tryz.f24))))
noncomputable abbrev A5Right_K1 (k14 : St → A5Right_R) : Ex → St → A5Right_R := (kSeq k14 A5Right_a2 (kFin Tryz.prog A5Right_rs Tryz.f24))
noncomputable abbrev A5Right_K2 (r12 k8 : St → A5Right_R) : Ex → St → A5Right_R := (kSeq r12 A5Right_a7 (kBlk 4 (kSeq k8 A5Right_a6 (kFin Tryz.prog A5Right_rs Tryz.f24))))
noncomputable abbrev A5Right_K3 (k8 : St → A5Right_R) : Ex → St → A5Right_R := (kSeq k8 A5Right_a6 (kFin Tryz.prog A5Right_rs Tryz.f24))
noncomputable abbrev A5Right_K4 (r4 k2 : St → A5Right_R) : Ex → St → A5Right_R := (kSeq r4 A5Right_a11 (kBlk 0 (kSeq k2 A5Right_a10 (kFin Tryz.prog A5Right_rs Tryz.f24))))
noncomputable abbrev A5Right_K5 (k5 r4 k2 : St → A5Right_R) : Ex → St → A5Right_R := (kBlk 1 (kSeq k5 A5Right_a13 (kSeq r4 A5Right_a11 (kBlk 0 (kSeq k2 A5Right_a10 (kFin Tryz.prog A5Right_rs Tryz.f24))))))
noncomputable abbrev A5Right_K6 (k5 r4 k2 : St → A5Right_R) : Ex → St → A5Right_R := (kBlk 1 (kSeq k5 A5Right_a13 (kSeq r4 A5Right_a11 (kBlk 0 (kSeq k2 A5Right_a10 (kFin Tryz.prog A5Right_rs Tryz.f24))))))
noncomputable abbrev A5Right_K7 (r13 k10 k5 r4 k2 : St → A5Right_R) : Ex → St → A5Right_R := (kSeq r13 A5Right_a17 (kBlk 2 (kSeq k10 A5Right_a16 (kBlk 1 (kSeq k5 A5Right_a13 (kSeq r4 A5Right_a11 (kBlk 0 (kSeq k2 A5Right_a10 (kFin Tryz.prog A5Right_rs Tryz.f24)))))))))
noncomputable abbrev A5Right_K8 (k16 r13 k10 k5 r4 k2 : St → A5Right_R) : Ex → St → A5Right_R := (kBlk 3 (kSeq k16 A5Right_a19 (kSeq r13 A5Right_a17 (kBlk 2 (kSeq k10 A5Right_a16 (kBlk 1 (kSeq k5 A5Right_a13 (kSeq r4 A5Right_a11 (kBlk 0 (kSeq k2 A5Right_a10 (kFin Tryz.prog A5Right_rs Tryz.f24)))))))))))
noncomputable abbrev A5Right_K9 (r13 k10 k5 r4 k2 : St → A5Right_R) : Ex → St → A5Right_R := (kSeq r13 A5Right_a17 (kBlk 2 (kSeq k10 A5Right_a16 (kBlk 1 (kSeq k5 A5Right_a13 (kSeq r4 A5Right_a11 (kBlk 0 (kSeq k2 A5Right_a10 (kFin Tryz.prog A5Right_rs Tryz.f24)))))))))
noncomputable abbrev A5Right_K10 (k10 k5 r4 k2 : St → A5Right_R) : Ex → St → A5Right_R := (kSeq k10 A5Right_a16 (kBlk 1 (kSeq k5 A5Right_a13 (kSeq r4 A5Right_a11 (kBlk 0 (kSeq k2 A5Right_a10 (kFin Tryz.prog A5Right_rs Tryz.f24)))))))
noncomputable abbrev A5Right_K11 (k5 r4 k2 : St → A5Right_R) : Ex → St → A5Right_R := (kBlk 1 (kSeq k5 A5Right_a13 (kSeq r4 A5Right_a11 (kBlk 0 (kSeq k2 A5Right_a10 (kFin Tryz.prog A5Right_rs Tryz.f24))))))
noncomputable abbrev A5Right_K12 (k6 k5 r4 k2 : St → A5Right_R) : Ex → St → A5Right_R := (kSeq k6 A5Right_a23 (kBlk 1 (kSeq k5 A5Right_a13 (kSeq r4 A5Right_a11 (kBlk 0 (kSeq k2 A5Right_a10 (kFin Tryz.prog A5Right_rs Tryz.f24)))))))
noncomputable abbrev A5Right_K13 (r4 k2 : St → A5Right_R) : Ex → St → A5Right_R := (kSeq r4 A5Right_a11 (kBlk 0 (kSeq k2 A5Right_a10 (kFin Tryz.prog A5Right_rs Tryz.f24))))
noncomputable abbrev A5Right_K14 (k2 : St → A5Right_R) : Ex → St → A5Right_R := (kSeq k2 A5Right_a10 (kFin Tryz.prog A5Right_rs Tryz.f24))
noncomputable abbrev A5Right_K15 (k0 : St → A5Right_R) : Ex → St → A5Right_R := (kSeq k0 A5Right_a27 (kFin Tryz.prog A5Right_rs Tryz.f24))
abbrev A5Right_t0 := Int × D_A5Zone
def A5Right_m0 (z : A5Right_t0) : St := ⟨(.junk :: .v ⟨(.ptr 0 0 T_A5Zone), ()⟩ :: .junk :: .v ⟨(.int .i64), z.1⟩ :: jk 173 []), [some (.one ⟨T_A5Zone, z.2⟩)]⟩
abbrev A5Right_t1 := Int × Bool × D_A5Zone
def A5Right_m1 (z : A5Right_t1) : St := ⟨(.junk :: .v ⟨(.ptr 0 0 T_A5Zone), ()⟩ :: .junk :: .v ⟨(.int .i64), z.1⟩ :: jk 23 (.v ⟨.bool, z.2.1⟩ :: jk 149 [])), [some (.one ⟨T_A5Zone, z.2.2⟩)]⟩
abbrev A5Right_t2 := Int × D_A5Zone
def A5Right_m2 (z : A5Right_t2) : St := ⟨(.junk :: .v ⟨(.ptr 0 0 T_A5Zone), ()⟩ :: .junk :: .v ⟨(.int .i64), z.1⟩ :: jk 173 []), [some (.one ⟨T_A5Zone, z.2⟩)]⟩
abbrev A5Right_t3 := Int × Int × D_A5Zone
def A5Right_m3 (z : A5Right_t3) : St := ⟨(.junk :: .v ⟨(.ptr 0 0 T_A5Zone), ()⟩ :: .junk :: .v ⟨(.int .i64), z.1⟩ :: .v ⟨(.int .i64), z.2.1⟩ :: jk 172 []), [some (.one ⟨T_A5Zone, z.2.2⟩)]⟩
abbrev A5Right_t4 := Int × Int × D_A5Zone
def A5Right_m4 (z : A5Right_t4) : St := ⟨(.junk :: .v ⟨(.ptr 0 0 T_A5Zone), ()⟩ :: .junk :: .v ⟨(.int .i64), z.1⟩ :: .v ⟨(.int .i64), z.2.1⟩ :: jk 172 []), [some (.one ⟨T_A5Zone, z.2.2⟩)]⟩
abbrev A5Right_t5 := Int × Int × D_A5Zone
def A5Right_m5 (z : A5Right_t5) : St := ⟨(.junk :: .v ⟨(.ptr 0 0 T_A5Zone), ()⟩ :: .junk :: .v ⟨(.int .i64), z.1⟩ :: .v ⟨(.int .i64), z.2.1⟩ :: jk 172 []), [some (.one ⟨T_A5Zone, z.2.2⟩)]⟩
abbrev A5Right_t6 := Int × Int × D_A5Zone × D_api_Era
def A5Right_m6 (z : A5Right_t6) : St := ⟨(.junk :: .v ⟨(.ptr 0 0 T_A5Zone), ()⟩ :: .junk :: .v ⟨(.int .i64), z.1⟩ :: .v ⟨(.int .i64), z.2.1⟩ :: .v ⟨(.ptr 1 0 T_api_Era), ()⟩ :: jk 171 []), [some (.one ⟨T_A5Zone, z.2.2.1⟩), some (.one ⟨T_api_Era, z.2.2.2⟩)]⟩
abbrev A5Right_t7 := Int × Int × Bool × D_A5Zone × D_api_Era
def A5Right_m7 (z : A5Right_t7) : St := ⟨(.junk :: .v ⟨(.ptr 0 0 T_A5Zone), ()⟩ :: .junk :: .v ⟨(.int .i64), z.1⟩ :: .v ⟨(.int .i64), z.2.1⟩ :: .v ⟨(.ptr 1 0 T_api_Era), ()⟩ :: jk 65 (.v ⟨.bool, z.2.2.1⟩ :: jk 105 [])), [some (.one ⟨T_A5Zone, z.2.2.2.1⟩), some (.one ⟨T_api_Era, z.2.2.2.2⟩)]⟩
abbrev A5Right_t8 := Int × D_A5Zone
def A5Right_m8 (z : A5Right_t8) : St := ⟨(.junk :: .v ⟨(.ptr 0 0 T_A5Zone), ()⟩ :: .junk :: .v ⟨(.int .i64), z.1⟩ :: jk 173 []), [some (.one ⟨T_A5Zone, z.2⟩)]⟩
abbrev A5Right_t9 := Int × Int × D_A5Zone
def A5Right_m9 (z : A5Right_t9) : St := ⟨(.junk :: .v ⟨(.ptr 0 0 T_A5Zone), ()⟩ :: .junk :: .v ⟨(.int .i64), z.1⟩ :: jk 6 (.v ⟨(.int .i64), z.2.1⟩ :: jk 166 [])), [some (.one ⟨T_A5Zone, z.2.2⟩)]⟩
abbrev A5Right_t10 := Int × Int × D_A5Zone × D_api_Era
def A5Right_m10 (z : A5Right_t10) : St := ⟨(.junk :: .v ⟨(.ptr 0 0 T_A5Zone), ()⟩ :: .junk :: .v ⟨(.int .i64), z.1⟩ :: .v ⟨(.int .i64), z.2.1⟩ :: .v ⟨(.ptr 1 0 T_api_Era), ()⟩ :: jk 171 []), [some (.one ⟨T_A5Zone, z.2.2.1⟩), some (.one ⟨T_api_Era, z.2.2.2⟩)]⟩
abbrev A5Right_t11 := Int × Int × Int × D_A5Zone × D_api_Era
def A5Right_m11 (z : A5Right_t11) : St := ⟨(.junk :: .v ⟨(.ptr 0 0 T_A5Zone), ()⟩ :: .junk :: .v ⟨(.int .i64), z.1⟩ :: .v ⟨(.int .i64), z.2.1⟩ :: .v ⟨(.ptr 1 0 T_api_Era), ()⟩ :: .v ⟨(.int .i64), z.2.2.1⟩ :: jk 170 []), [some (.one ⟨T_A5Zone, z.2.2.2.1⟩), some (.one ⟨T_api_Era, z.2.2.2.2⟩)]⟩
abbrev A5Right_t12 := Int × Int × D_A5Zone
def A5Right_m12 (z : A5Right_t12) : St := ⟨(.junk :: .v ⟨(.ptr 0 0 T_A5Zone), ()⟩ :: .junk :: .v ⟨(.int .i64), z.1⟩ :: jk 6 (.v ⟨(.int .i64), z.2.1⟩ :: jk 166 [])), [some (.one ⟨T_A5Zone, z.2.2⟩)]⟩
abbrev A5Right_t13 := Int × Int × Int × D_A5Zone × D_api_Era
def A5Right_m13 (z : A5Right_t13) : St := ⟨(.junk :: .v ⟨(.ptr 0 0 T_A5Zone), ()⟩ :: .junk :: .v ⟨(.int .i64), z.1⟩ :: .v ⟨(.int .i64), z.2.1⟩ :: .v ⟨(.ptr 1 0 T_api_Era), ()⟩ :: .v ⟨(.int .i64), z.2.2.1⟩ :: jk 170 []), [some (.one ⟨T_A5Zone, z.2.2.2.1⟩), some (.one ⟨T_api_Era, z.2.2.2.2⟩)]⟩
abbrev A5Right_t14 := Unit
def A5Right_m14 (_z : A5Right_t14) : St := ⟨(jk 177 []), []⟩
abbrev A5Right_t15 := Int × Int × D_A5Zone
def A5Right_m15 (z : A5Right_t15) : St := ⟨(.junk :: .v ⟨(.ptr 0 0 T_A5Zone), ()⟩ :: .junk :: .v ⟨(.int .i64), z.1⟩ :: jk 7 (.v ⟨(.int .i64), z.2.1⟩ :: jk 165 [])), [some (.one ⟨T_A5Zone, z.2.2⟩)]⟩
abbrev A5Right_t16 := Int × Int × Int × D_A5Zone × D_api_Era
def A5Right_m16 (z : A5Right_t16) : St := ⟨(.junk :: .v ⟨(.ptr 0 0 T_A5Zone), ()⟩ :: .junk :: .v ⟨(.int .i64), z.1⟩ :: .v ⟨(.int .i64), z.2.1⟩ :: .v ⟨(.ptr 1 0 T_api_Era), ()⟩ :: .v ⟨(.int .i64), z.2.2.1⟩ :: jk 170 []), [some (.one ⟨T_A5Zone, z.2.2.2.1⟩), some (.one ⟨T_api_Era, z.2.2.2.2⟩)]⟩
abbrev A5Right_t17 := Int × Int × Int × Bool × D_A5Zone × D_api_Era
def A5Right_m17 (z : A5Right_t17) : St := ⟨(.junk :: .v ⟨(.ptr 0 0 T_A5Zone), ()⟩ :: .junk :: .v ⟨(.int .i64), z.1⟩ :: .v ⟨(.int .i64), z.2.1⟩ :: .v ⟨(.ptr 1 0 T_api_Era), ()⟩ :: .v ⟨(.int .i64), z.2.2.1⟩ :: jk 105 (.v ⟨.bool, z.2.2.2.1⟩ :: jk 64 [])), [some (.one ⟨T_A5Zone, z.2.2.2.2.1⟩), some (.one ⟨T_api_Era, z.2.2.2.2.2⟩)]⟩
abbrev A5Right_t18 := Int × Int × Bool × D_A5Zone
def A5Right_m18 (z : A5Right_t18) : St := ⟨(.junk :: .v ⟨(.ptr 0 0 T_A5Zone), ()⟩ :: .junk :: .v ⟨(.int .i64), z.1⟩ :: .v ⟨(.int .i64), z.2.1⟩ :: jk 140 (.v ⟨.bool, z.2.2.1⟩ :: jk 31 [])), [some (.one ⟨T_A5Zone, z.2.2.2⟩)]⟩
abbrev A5Right_t19 := Int × Int × D_A5Zone
def A5Right_m19 (z : A5Right_t19) : St := ⟨(.junk :: .v ⟨(.ptr 0 0 T_A5Zone), ()⟩ :: .junk :: .v ⟨(.int .i64), z.1⟩ :: jk 7 (.v ⟨(.int .i64), z.2.1⟩ :: jk 165 [])), [some (.one ⟨T_A5Zone, z.2.2⟩)]⟩
def A5Right_p14 (_n : Nat) (_z : A5Right_t14) : A5Right_R :=
  some ((0 : Int), ())
def A5Right_s14 (n : Nat) (z : A5Right_t14) : A5Right_R := A5Right_p14 n z
theorem A5Right_e14 (n : Nat) (rc : RC A5Right_R) (z : A5Right_t14) : codeR rc Tryz.prog A5Right_sp n A5Right_c0 A5Right_a0 (A5Right_m14 z) (kFin Tryz.prog A5Right_rs Tryz.f24) = A5Right_p14 n z := by kernel_rfl
theorem A5Right_q14 (n : Nat) (z : A5Right_t14) : codeK Tryz.prog A5Right_sp n A5Right_c0 A5Right_a0 (A5Right_m14 z) (kFin Tryz.prog A5Right_rs Tryz.f24) = A5Right_s14 n z := by
  rw [codeK_R, A5Right_e14]
  rfl
def A5Right_p19 (n : Nat) (k14 : A5Right_t14 → A5Right_R) (r19 : A5Right_t19 → A5Right_R) (z : A5Right_t19) : A5Right_R :=
  bif (decide (z.2.1 < (w64 (z.1 - 1)))) then
    ((A5End n (z.2.2, (z.2.1, ())))).bind fun v19 =>
    ((A5End n (z.2.2, ((w64 (z.2.1 - 1)), ())))).bind fun v21 =>
    bif (decide (v19.1 ≤ v21.1)) then
      some ((14 : Int), ())
    else
      r19 (z.1, (w64 (z.2.1 + 1)), z.2.2)
  else
    k14 ()
def A5Right_s19 (n : Nat) (k14 : A5Right_t14 → A5Right_R) (r19 : A5Right_t19 → A5Right_R) (z : A5Right_t19) : A5Right_R := A5Right_p19 n k14 r19 z
theorem A5Right_e19 (n : Nat) (k14 : St → A5Right_R) (r19 : St → A5Right_R) (rc : RC A5Right_R) (z : A5Right_t19) : codeR rc Tryz.prog A5Right_sp n A5Right_c1 A5Right_a1 (A5Right_m19 z) (A5Right_K0 r19 k14) = A5Right_p19 n (fun y => k14 (A5Right_m14 y)) (fun y => r19 (A5Right_m19 y)) z := by kernel_rfl
theorem A5Right_q19 (n : Nat) (k14 : St → A5Right_R) (r19 : St → A5Right_R) (z : A5Right_t19) : codeK Tryz.prog A5Right_sp n A5Right_c1 A5Right_a1 (A5Right_m19 z) (A5Right_K0 r19 k14) = A5Right_s19 n (fun y => k14 (A5Right_m14 y)) (fun y => r19 (A5Right_m19 y)) z := by
  rw [codeK_R, A5Right_e19]
  rfl
def A5Right_s15 (n : Nat) (k14 : A5Right_t14 → A5Right_R) (z : A5Right_t15) : A5Right_R :=
  rounds (fun r19 x' => A5Right_s19 n k14 r19 x') n (z.1, z.2.1, z.2.2)
theorem A5Right_q15 (n : Nat) (k14 : St → A5Right_R) (z : A5Right_t15) : codeK Tryz.prog A5Right_sp n A5Right_c2 A5Right_a4 (A5Right_m15 z) (A5Right_K1 k14) = A5Right_s15 n (fun y => k14 (A5Right_m14 y)) z :=
  Eq.trans (b := rounds (fun r19 st => codeK Tryz.prog A5Right_sp n A5Right_c1 A5Right_a1 st (A5Right_K0 r19 k14)) n (A5Right_m19 (z.1, z.2.1, z.2.2))) (by kernel_rfl) (rounds_mk A5Right_m19 (fun r19 x' => by
    have := (A5Right_q19 n k14 r19 x')
    exact this) n _)
def A5Right_p8 (_n : Nat) (k14 : A5Right_t14 → A5Right_R) (k15 : A5Right_t15 → A5Right_R) (z : A5Right_t8) : A5Right_R :=
  k15 (z.1, (1 : Int), z.2)
def A5Right_s8 (n : Nat) (z : A5Right_t8) : A5Right_R := A5Right_p8 n (A5Right_s14 n) (A5Right_s15 n (A5Right_s14 n)) z
theorem A5Right_e8 (n : Nat) (rc : RC A5Right_R) (z : A5Right_t8) : codeR rc Tryz.prog A5Right_sp n A5Right_c3 A5Right_a2 (A5Right_m8 z) (kFin Tryz.prog A5Right_rs Tryz.f24) = A5Right_p8 n (fun y => rc A5Right_c0 A5Right_a0 (A5Right_m14 y) (kFin Tryz.prog A5Right_rs Tryz.f24)) (fun y => rc A5Right_c2 A5Right_a4 (A5Right_m15 y) (A5Right_K1 (fun st => rc A5Right_c0 A5Right_a0 st (kFin Tryz.prog A5Right_rs Tryz.f24)))) z := by kernel_rfl
theorem A5Right_q8 (n : Nat) (z : A5Right_t8) : codeK Tryz.prog A5Right_sp n A5Right_c3 A5Right_a2 (A5Right_m8 z) (kFin Tryz.prog A5Right_rs Tryz.f24) = A5Right_s8 n z := by
  have h14 : (fun y => codeK Tryz.prog A5Right_sp n A5Right_c0 A5Right_a0 (A5Right_m14 y) (kFin Tryz.prog A5Right_rs Tryz.f24)) = (A5Right_s14 n) := funext fun y => by
    have := A5Right_q14 n  y
    exact this
  have h15 : (fun y => codeK Tryz.prog A5Right_sp n A5Right_c2 A5Right_a4 (A5Right_m15 y) (A5Right_K1 (fun st => codeK Tryz.prog A5Right_sp n A5Right_c0 A5Right_a0 st (kFin Tryz.prog A5Right_rs Tryz.f24)))) = (A5Right_s15 n (A5Right_s14 n)) := funext fun y => by
    have := A5Right_q15 n (fun st => codeK Tryz.prog A5Right_sp n A5Right_c0 A5Right_a0 st (kFin Tryz.prog A5Right_rs Tryz.f24)) y
    rw [h14] at this; exact this
  rw [codeK_R, A5Right_e8]
  rw [h14]
  rw [h15]
  rfl
def A5Right_p12 (_n : Nat) (k8 : A5Right_t8 → A5Right_R) (r12 : A5Right_t12 → A5Right_R) (z : A5Right_t12) : A5Right_R :=
  bif (decide (z.2.1 < z.1)) then
    bif decide (0 ≤ z.2.1) then
      ((z.2.2.1[Int.toNat z.2.1]?)).bind fun e6 =>
      bif (!(e6.2.2.2.2.2.1.1 == (decide (z.2.1 < (w64 (z.1 - 1)))))) then
        some ((21 : Int), ())
      else
        r12 (z.1, (w64 (z.2.1 + 1)), z.2.2)
    else none
  else
    k8 (z.1, z.2.2)
def A5Right_s12 (n : Nat) (k8 : A5Right_t8 → A5Right_R) (r12 : A5Right_t12 → A5Right_R) (z : A5Right_t12) : A5Right_R := A5Right_p12 n k8 r12 z
theorem A5Right_e12 (n : Nat) (k8 : St → A5Right_R) (r12 : St → A5Right_R) (rc : RC A5Right_R) (z : A5Right_t12) : codeR rc Tryz.prog A5Right_sp n A5Right_c4 A5Right_a5 (A5Right_m12 z) (A5Right_K2 r12 k8) = A5Right_p12 n (fun y => k8 (A5Right_m8 y)) (fun y => r12 (A5Right_m12 y)) z := by kernel_rfl
theorem A5Right_q12 (n : Nat) (k8 : St → A5Right_R) (r12 : St → A5Right_R) (z : A5Right_t12) : codeK Tryz.prog A5Right_sp n A5Right_c4 A5Right_a5 (A5Right_m12 z) (A5Right_K2 r12 k8) = A5Right_s12 n (fun y => k8 (A5Right_m8 y)) (fun y => r12 (A5Right_m12 y)) z := by
  rw [codeK_R, A5Right_e12]
  rfl
def A5Right_s9 (n : Nat) (k8 : A5Right_t8 → A5Right_R) (z : A5Right_t9) : A5Right_R :=
  rounds (fun r12 x' => A5Right_s12 n k8 r12 x') n (z.1, z.2.1, z.2.2)
theorem A5Right_q9 (n : Nat) (k8 : St → A5Right_R) (z : A5Right_t9) : codeK Tryz.prog A5Right_sp n A5Right_c5 A5Right_a8 (A5Right_m9 z) (A5Right_K3 k8) = A5Right_s9 n (fun y => k8 (A5Right_m8 y)) z :=
  Eq.trans (b := rounds (fun r12 st => codeK Tryz.prog A5Right_sp n A5Right_c4 A5Right_a5 st (A5Right_K2 r12 k8)) n (A5Right_m12 (z.1, z.2.1, z.2.2))) (by kernel_rfl) (rounds_mk A5Right_m12 (fun r12 x' => by
    have := (A5Right_q12 n k8 r12 x')
    exact this) n _)
def A5Right_p2 (_n : Nat) (k8 : A5Right_t8 → A5Right_R) (k9 : A5Right_t9 → A5Right_R) (z : A5Right_t2) : A5Right_R :=
  k9 (z.1, (0 : Int), z.2)
def A5Right_s2 (n : Nat) (z : A5Right_t2) : A5Right_R := A5Right_p2 n (A5Right_s8 n) (A5Right_s9 n (A5Right_s8 n)) z
theorem A5Right_e2 (n : Nat) (rc : RC A5Right_R) (z : A5Right_t2) : codeR rc Tryz.prog A5Right_sp n A5Right_c6 A5Right_a6 (A5Right_m2 z) (kFin Tryz.prog A5Right_rs Tryz.f24) = A5Right_p2 n (fun y => rc A5Right_c3 A5Right_a2 (A5Right_m8 y) (kFin Tryz.prog A5Right_rs Tryz.f24)) (fun y => rc A5Right_c5 A5Right_a8 (A5Right_m9 y) (A5Right_K3 (fun st => rc A5Right_c3 A5Right_a2 st (kFin Tryz.prog A5Right_rs Tryz.f24)))) z := by kernel_rfl
theorem A5Right_q2 (n : Nat) (z : A5Right_t2) : codeK Tryz.prog A5Right_sp n A5Right_c6 A5Right_a6 (A5Right_m2 z) (kFin Tryz.prog A5Right_rs Tryz.f24) = A5Right_s2 n z := by
  have h8 : (fun y => codeK Tryz.prog A5Right_sp n A5Right_c3 A5Right_a2 (A5Right_m8 y) (kFin Tryz.prog A5Right_rs Tryz.f24)) = (A5Right_s8 n) := funext fun y => by
    have := A5Right_q8 n  y
    exact this
  have h9 : (fun y => codeK Tryz.prog A5Right_sp n A5Right_c5 A5Right_a8 (A5Right_m9 y) (A5Right_K3 (fun st => codeK Tryz.prog A5Right_sp n A5Right_c3 A5Right_a2 st (kFin Tryz.prog A5Right_rs Tryz.f24)))) = (A5Right_s9 n (A5Right_s8 n)) := funext fun y => by
    have := A5Right_q9 n (fun st => codeK Tryz.prog A5Right_sp n A5Right_c3 A5Right_a2 st (kFin Tryz.prog A5Right_rs Tryz.f24)) y
    rw [h8] at this; exact this
  rw [codeK_R, A5Right_e2]
  rw [h8]
  rw [h9]
  rfl
def A5Right_p5 (_n : Nat) (_k2 : A5Right_t2 → A5Right_R) (r4 : A5Right_t4 → A5Right_R) (z : A5Right_t5) : A5Right_R :=
  r4 (z.1, (w64 (z.2.1 + 1)), z.2.2)
def A5Right_s5 (n : Nat) (k2 : A5Right_t2 → A5Right_R) (r4 : A5Right_t4 → A5Right_R) (z : A5Right_t5) : A5Right_R := A5Right_p5 n k2 r4 z
theorem A5Right_e5 (n : Nat) (k2 : St → A5Right_R) (r4 : St → A5Right_R) (rc : RC A5Right_R) (z : A5Right_t5) : codeR rc Tryz.prog A5Right_sp n A5Right_c7 A5Right_a9 (A5Right_m5 z) (A5Right_K4 r4 k2) = A5Right_p5 n (fun y => k2 (A5Right_m2 y)) (fun y => r4 (A5Right_m4 y)) z := by kernel_rfl
theorem A5Right_q5 (n : Nat) (k2 : St → A5Right_R) (r4 : St → A5Right_R) (z : A5Right_t5) : codeK Tryz.prog A5Right_sp n A5Right_c7 A5Right_a9 (A5Right_m5 z) (A5Right_K4 r4 k2) = A5Right_s5 n (fun y => k2 (A5Right_m2 y)) (fun y => r4 (A5Right_m4 y)) z := by
  rw [codeK_R, A5Right_e5]
  rfl
def A5Right_p18 (_n : Nat) (_k2 : A5Right_t2 → A5Right_R) (_r4 : A5Right_t4 → A5Right_R) (k5 : A5Right_t5 → A5Right_R) (z : A5Right_t18) : A5Right_R :=
  bif z.2.2.1 then
    some ((1 : Int), ())
  else
    k5 (z.1, z.2.1, z.2.2.2)
def A5Right_s18 (n : Nat) (k2 : A5Right_t2 → A5Right_R) (r4 : A5Right_t4 → A5Right_R) (k5 : A5Right_t5 → A5Right_R) (z : A5Right_t18) : A5Right_R := A5Right_p18 n k2 r4 k5 z
theorem A5Right_e18 (n : Nat) (k2 : St → A5Right_R) (r4 : St → A5Right_R) (k5 : St → A5Right_R) (rc : RC A5Right_R) (z : A5Right_t18) : codeR rc Tryz.prog A5Right_sp n A5Right_c8 A5Right_a12 (A5Right_m18 z) (A5Right_K5 k5 r4 k2) = A5Right_p18 n (fun y => k2 (A5Right_m2 y)) (fun y => r4 (A5Right_m4 y)) (fun y => k5 (A5Right_m5 y)) z := by kernel_rfl
theorem A5Right_q18 (n : Nat) (k2 : St → A5Right_R) (r4 : St → A5Right_R) (k5 : St → A5Right_R) (z : A5Right_t18) : codeK Tryz.prog A5Right_sp n A5Right_c8 A5Right_a12 (A5Right_m18 z) (A5Right_K5 k5 r4 k2) = A5Right_s18 n (fun y => k2 (A5Right_m2 y)) (fun y => r4 (A5Right_m4 y)) (fun y => k5 (A5Right_m5 y)) z := by
  rw [codeK_R, A5Right_e18]
  rfl
def A5Right_p10 (n : Nat) (_k2 : A5Right_t2 → A5Right_R) (_r4 : A5Right_t4 → A5Right_R) (k5 : A5Right_t5 → A5Right_R) (k18 : A5Right_t18 → A5Right_R) (z : A5Right_t10) : A5Right_R :=
  bif z.2.2.2.2.2.2.2.2.1.1 then
    ((A5clock n (z.2.2.2.2.2.2.2.2.1, ()))).bind fun v14 =>
    bif (!v14.2.1) then
      k18 (z.1, z.2.1, true, z.2.2.1)
    else
      ((A5within n (z.2.2.2.2.2.2.2.2.1.2.2.2.2.1.1, ((604799 : Int), ())))).bind fun v15 =>
      bif (!v15.1) then
        k18 (z.1, z.2.1, true, z.2.2.1)
      else
        bif (decide (z.2.2.2.2.2.2.2.2.1.2.2.2.2.1.2.1 < 0)) then
          k18 (z.1, z.2.1, true, z.2.2.1)
        else
          k18 (z.1, z.2.1, (decide (z.2.2.2.2.2.2.2.2.1.2.2.2.2.1.2.1 > 2)), z.2.2.1)
  else
    k5 (z.1, z.2.1, z.2.2.1)
def A5Right_s10 (n : Nat) (k2 : A5Right_t2 → A5Right_R) (r4 : A5Right_t4 → A5Right_R) (k5 : A5Right_t5 → A5Right_R) (z : A5Right_t10) : A5Right_R := A5Right_p10 n k2 r4 k5 (A5Right_s18 n k2 r4 k5) z
theorem A5Right_e10 (n : Nat) (k2 : St → A5Right_R) (r4 : St → A5Right_R) (k5 : St → A5Right_R) (rc : RC A5Right_R) (z : A5Right_t10) : codeR rc Tryz.prog A5Right_sp n A5Right_c9 A5Right_a14 (A5Right_m10 z) (A5Right_K6 k5 r4 k2) = A5Right_p10 n (fun y => k2 (A5Right_m2 y)) (fun y => r4 (A5Right_m4 y)) (fun y => k5 (A5Right_m5 y)) (fun y => rc A5Right_c8 A5Right_a12 (A5Right_m18 y) (A5Right_K5 k5 r4 k2)) z := by kernel_rfl
theorem A5Right_q10 (n : Nat) (k2 : St → A5Right_R) (r4 : St → A5Right_R) (k5 : St → A5Right_R) (z : A5Right_t10) : codeK Tryz.prog A5Right_sp n A5Right_c9 A5Right_a14 (A5Right_m10 z) (A5Right_K6 k5 r4 k2) = A5Right_s10 n (fun y => k2 (A5Right_m2 y)) (fun y => r4 (A5Right_m4 y)) (fun y => k5 (A5Right_m5 y)) z := by
  have h18 : (fun y => codeK Tryz.prog A5Right_sp n A5Right_c8 A5Right_a12 (A5Right_m18 y) (A5Right_K5 k5 r4 k2)) = (A5Right_s18 n (fun y => k2 (A5Right_m2 y)) (fun y => r4 (A5Right_m4 y)) (fun y => k5 (A5Right_m5 y))) := funext fun y => by
    have := A5Right_q18 n k2 r4 k5 y
    exact this
  rw [codeK_R, A5Right_e10]
  rw [h18]
  rfl
def A5Right_p16 (_n : Nat) (_k2 : A5Right_t2 → A5Right_R) (_r4 : A5Right_t4 → A5Right_R) (_k5 : A5Right_t5 → A5Right_R) (_k10 : A5Right_t10 → A5Right_R) (r13 : A5Right_t13 → A5Right_R) (z : A5Right_t16) : A5Right_R :=
  r13 (z.1, z.2.1, (w64 (z.2.2.1 + 1)), z.2.2.2.1, z.2.2.2.2)
def A5Right_s16 (n : Nat) (k2 : A5Right_t2 → A5Right_R) (r4 : A5Right_t4 → A5Right_R) (k5 : A5Right_t5 → A5Right_R) (k10 : A5Right_t10 → A5Right_R) (r13 : A5Right_t13 → A5Right_R) (z : A5Right_t16) : A5Right_R := A5Right_p16 n k2 r4 k5 k10 r13 z
theorem A5Right_e16 (n : Nat) (k2 : St → A5Right_R) (r4 : St → A5Right_R) (k5 : St → A5Right_R) (k10 : St → A5Right_R) (r13 : St → A5Right_R) (rc : RC A5Right_R) (z : A5Right_t16) : codeR rc Tryz.prog A5Right_sp n A5Right_c10 A5Right_a15 (A5Right_m16 z) (A5Right_K7 r13 k10 k5 r4 k2) = A5Right_p16 n (fun y => k2 (A5Right_m2 y)) (fun y => r4 (A5Right_m4 y)) (fun y => k5 (A5Right_m5 y)) (fun y => k10 (A5Right_m10 y)) (fun y => r13 (A5Right_m13 y)) z := by kernel_rfl
theorem A5Right_q16 (n : Nat) (k2 : St → A5Right_R) (r4 : St → A5Right_R) (k5 : St → A5Right_R) (k10 : St → A5Right_R) (r13 : St → A5Right_R) (z : A5Right_t16) : codeK Tryz.prog A5Right_sp n A5Right_c10 A5Right_a15 (A5Right_m16 z) (A5Right_K7 r13 k10 k5 r4 k2) = A5Right_s16 n (fun y => k2 (A5Right_m2 y)) (fun y => r4 (A5Right_m4 y)) (fun y => k5 (A5Right_m5 y)) (fun y => k10 (A5Right_m10 y)) (fun y => r13 (A5Right_m13 y)) z := by
  rw [codeK_R, A5Right_e16]
  rfl
def A5Right_p17 (_n : Nat) (_k2 : A5Right_t2 → A5Right_R) (_r4 : A5Right_t4 → A5Right_R) (_k5 : A5Right_t5 → A5Right_R) (_k10 : A5Right_t10 → A5Right_R) (_r13 : A5Right_t13 → A5Right_R) (k16 : A5Right_t16 → A5Right_R) (z : A5Right_t17) : A5Right_R :=
  bif z.2.2.2.1 then
    some ((1 : Int), ())
  else
    k16 (z.1, z.2.1, z.2.2.1, z.2.2.2.2.1, z.2.2.2.2.2)
def A5Right_s17 (n : Nat) (k2 : A5Right_t2 → A5Right_R) (r4 : A5Right_t4 → A5Right_R) (k5 : A5Right_t5 → A5Right_R) (k10 : A5Right_t10 → A5Right_R) (r13 : A5Right_t13 → A5Right_R) (k16 : A5Right_t16 → A5Right_R) (z : A5Right_t17) : A5Right_R := A5Right_p17 n k2 r4 k5 k10 r13 k16 z
theorem A5Right_e17 (n : Nat) (k2 : St → A5Right_R) (r4 : St → A5Right_R) (k5 : St → A5Right_R) (k10 : St → A5Right_R) (r13 : St → A5Right_R) (k16 : St → A5Right_R) (rc : RC A5Right_R) (z : A5Right_t17) : codeR rc Tryz.prog A5Right_sp n A5Right_c11 A5Right_a18 (A5Right_m17 z) (A5Right_K8 k16 r13 k10 k5 r4 k2) = A5Right_p17 n (fun y => k2 (A5Right_m2 y)) (fun y => r4 (A5Right_m4 y)) (fun y => k5 (A5Right_m5 y)) (fun y => k10 (A5Right_m10 y)) (fun y => r13 (A5Right_m13 y)) (fun y => k16 (A5Right_m16 y)) z := by kernel_rfl
theorem A5Right_q17 (n : Nat) (k2 : St → A5Right_R) (r4 : St → A5Right_R) (k5 : St → A5Right_R) (k10 : St → A5Right_R) (r13 : St → A5Right_R) (k16 : St → A5Right_R) (z : A5Right_t17) : codeK Tryz.prog A5Right_sp n A5Right_c11 A5Right_a18 (A5Right_m17 z) (A5Right_K8 k16 r13 k10 k5 r4 k2) = A5Right_s17 n (fun y => k2 (A5Right_m2 y)) (fun y => r4 (A5Right_m4 y)) (fun y => k5 (A5Right_m5 y)) (fun y => k10 (A5Right_m10 y)) (fun y => r13 (A5Right_m13 y)) (fun y => k16 (A5Right_m16 y)) z := by
  rw [codeK_R, A5Right_e17]
  rfl
def A5Right_p13 (n : Nat) (_k2 : A5Right_t2 → A5Right_R) (_r4 : A5Right_t4 → A5Right_R) (_k5 : A5Right_t5 → A5Right_R) (k10 : A5Right_t10 → A5Right_R) (_r13 : A5Right_t13 → A5Right_R) (k16 : A5Right_t16 → A5Right_R) (k17 : A5Right_t17 → A5Right_R) (z : A5Right_t13) : A5Right_R :=
  bif decide (0 ≤ z.2.1) then
    ((z.2.2.2.1.2.1[Int.toNat z.2.1]?)).bind fun e9 =>
    bif (decide (z.2.2.1 < (List.length e9 : Int))) then
      bif decide (0 ≤ z.2.1) then
        ((z.2.2.2.1.2.1[Int.toNat z.2.1]?)).bind fun e10 =>
        bif decide (0 ≤ z.2.2.1) then
          ((e10[Int.toNat z.2.2.1]?)).bind fun e11 =>
          ((A5within n (e11.2.2.2.2.2.2.1, ((86400 : Int), ())))).bind fun v12 =>
          bif (!v12.1) then
            k17 (z.1, z.2.1, z.2.2.1, true, z.2.2.2.1, z.2.2.2.2)
          else
            ((A5within n (e11.2.2.2.2.2.1.1, ((604799 : Int), ())))).bind fun v13 =>
            bif (!v13.1) then
              k17 (z.1, z.2.1, z.2.2.1, true, z.2.2.2.1, z.2.2.2.2)
            else
              bif (decide (e11.2.2.2.2.2.1.2.1 < 0)) then
                k17 (z.1, z.2.1, z.2.2.1, true, z.2.2.2.1, z.2.2.2.2)
              else
                k17 (z.1, z.2.1, z.2.2.1, (decide (e11.2.2.2.2.2.1.2.1 > 2)), z.2.2.2.1, z.2.2.2.2)
        else none
      else none
    else
      k10 (z.1, z.2.1, z.2.2.2.1, z.2.2.2.2)
  else none
def A5Right_s13 (n : Nat) (k2 : A5Right_t2 → A5Right_R) (r4 : A5Right_t4 → A5Right_R) (k5 : A5Right_t5 → A5Right_R) (k10 : A5Right_t10 → A5Right_R) (r13 : A5Right_t13 → A5Right_R) (z : A5Right_t13) : A5Right_R := A5Right_p13 n k2 r4 k5 k10 r13 (A5Right_s16 n k2 r4 k5 k10 r13) (A5Right_s17 n k2 r4 k5 k10 r13 (A5Right_s16 n k2 r4 k5 k10 r13)) z
theorem A5Right_e13 (n : Nat) (k2 : St → A5Right_R) (r4 : St → A5Right_R) (k5 : St → A5Right_R) (k10 : St → A5Right_R) (r13 : St → A5Right_R) (rc : RC A5Right_R) (z : A5Right_t13) : codeR rc Tryz.prog A5Right_sp n A5Right_c12 A5Right_a20 (A5Right_m13 z) (A5Right_K9 r13 k10 k5 r4 k2) = A5Right_p13 n (fun y => k2 (A5Right_m2 y)) (fun y => r4 (A5Right_m4 y)) (fun y => k5 (A5Right_m5 y)) (fun y => k10 (A5Right_m10 y)) (fun y => r13 (A5Right_m13 y)) (fun y => rc A5Right_c10 A5Right_a15 (A5Right_m16 y) (A5Right_K7 r13 k10 k5 r4 k2)) (fun y => rc A5Right_c11 A5Right_a18 (A5Right_m17 y) (A5Right_K8 (fun st => rc A5Right_c10 A5Right_a15 st (A5Right_K7 r13 k10 k5 r4 k2)) r13 k10 k5 r4 k2)) z := by kernel_rfl
theorem A5Right_q13 (n : Nat) (k2 : St → A5Right_R) (r4 : St → A5Right_R) (k5 : St → A5Right_R) (k10 : St → A5Right_R) (r13 : St → A5Right_R) (z : A5Right_t13) : codeK Tryz.prog A5Right_sp n A5Right_c12 A5Right_a20 (A5Right_m13 z) (A5Right_K9 r13 k10 k5 r4 k2) = A5Right_s13 n (fun y => k2 (A5Right_m2 y)) (fun y => r4 (A5Right_m4 y)) (fun y => k5 (A5Right_m5 y)) (fun y => k10 (A5Right_m10 y)) (fun y => r13 (A5Right_m13 y)) z := by
  have h16 : (fun y => codeK Tryz.prog A5Right_sp n A5Right_c10 A5Right_a15 (A5Right_m16 y) (A5Right_K7 r13 k10 k5 r4 k2)) = (A5Right_s16 n (fun y => k2 (A5Right_m2 y)) (fun y => r4 (A5Right_m4 y)) (fun y => k5 (A5Right_m5 y)) (fun y => k10 (A5Right_m10 y)) (fun y => r13 (A5Right_m13 y))) := funext fun y => by
    have := A5Right_q16 n k2 r4 k5 k10 r13 y
    exact this
  have h17 : (fun y => codeK Tryz.prog A5Right_sp n A5Right_c11 A5Right_a18 (A5Right_m17 y) (A5Right_K8 (fun st => codeK Tryz.prog A5Right_sp n A5Right_c10 A5Right_a15 st (A5Right_K7 r13 k10 k5 r4 k2)) r13 k10 k5 r4 k2)) = (A5Right_s17 n (fun y => k2 (A5Right_m2 y)) (fun y => r4 (A5Right_m4 y)) (fun y => k5 (A5Right_m5 y)) (fun y => k10 (A5Right_m10 y)) (fun y => r13 (A5Right_m13 y)) (A5Right_s16 n (fun y => k2 (A5Right_m2 y)) (fun y => r4 (A5Right_m4 y)) (fun y => k5 (A5Right_m5 y)) (fun y => k10 (A5Right_m10 y)) (fun y => r13 (A5Right_m13 y)))) := funext fun y => by
    have := A5Right_q17 n k2 r4 k5 k10 r13 (fun st => codeK Tryz.prog A5Right_sp n A5Right_c10 A5Right_a15 st (A5Right_K7 r13 k10 k5 r4 k2)) y
    rw [h16] at this; exact this
  rw [codeK_R, A5Right_e13]
  rw [h16]
  rw [h17]
  rfl
def A5Right_s11 (n : Nat) (k2 : A5Right_t2 → A5Right_R) (r4 : A5Right_t4 → A5Right_R) (k5 : A5Right_t5 → A5Right_R) (k10 : A5Right_t10 → A5Right_R) (z : A5Right_t11) : A5Right_R :=
  rounds (fun r13 x' => A5Right_s13 n k2 r4 k5 k10 r13 x') n (z.1, z.2.1, z.2.2.1, z.2.2.2.1, z.2.2.2.2)
theorem A5Right_q11 (n : Nat) (k2 : St → A5Right_R) (r4 : St → A5Right_R) (k5 : St → A5Right_R) (k10 : St → A5Right_R) (z : A5Right_t11) : codeK Tryz.prog A5Right_sp n A5Right_c13 A5Right_a21 (A5Right_m11 z) (A5Right_K10 k10 k5 r4 k2) = A5Right_s11 n (fun y => k2 (A5Right_m2 y)) (fun y => r4 (A5Right_m4 y)) (fun y => k5 (A5Right_m5 y)) (fun y => k10 (A5Right_m10 y)) z :=
  Eq.trans (b := rounds (fun r13 st => codeK Tryz.prog A5Right_sp n A5Right_c12 A5Right_a20 st (A5Right_K9 r13 k10 k5 r4 k2)) n (A5Right_m13 (z.1, z.2.1, z.2.2.1, z.2.2.2.1, z.2.2.2.2))) (by kernel_rfl) (rounds_mk A5Right_m13 (fun r13 x' => by
    have := (A5Right_q13 n k2 r4 k5 k10 r13 x')
    exact this) n _)
def A5Right_p6 (_n : Nat) (_k2 : A5Right_t2 → A5Right_R) (_r4 : A5Right_t4 → A5Right_R) (_k5 : A5Right_t5 → A5Right_R) (k10 : A5Right_t10 → A5Right_R) (k11 : A5Right_t11 → A5Right_R) (z : A5Right_t6) : A5Right_R :=
  k11 (z.1, z.2.1, (0 : Int), z.2.2.1, z.2.2.2)
def A5Right_s6 (n : Nat) (k2 : A5Right_t2 → A5Right_R) (r4 : A5Right_t4 → A5Right_R) (k5 : A5Right_t5 → A5Right_R) (z : A5Right_t6) : A5Right_R := A5Right_p6 n k2 r4 k5 (A5Right_s10 n k2 r4 k5) (A5Right_s11 n k2 r4 k5 (A5Right_s10 n k2 r4 k5)) z
theorem A5Right_e6 (n : Nat) (k2 : St → A5Right_R) (r4 : St → A5Right_R) (k5 : St → A5Right_R) (rc : RC A5Right_R) (z : A5Right_t6) : codeR rc Tryz.prog A5Right_sp n A5Right_c14 A5Right_a16 (A5Right_m6 z) (A5Right_K11 k5 r4 k2) = A5Right_p6 n (fun y => k2 (A5Right_m2 y)) (fun y => r4 (A5Right_m4 y)) (fun y => k5 (A5Right_m5 y)) (fun y => rc A5Right_c9 A5Right_a14 (A5Right_m10 y) (A5Right_K6 k5 r4 k2)) (fun y => rc A5Right_c13 A5Right_a21 (A5Right_m11 y) (A5Right_K10 (fun st => rc A5Right_c9 A5Right_a14 st (A5Right_K6 k5 r4 k2)) k5 r4 k2)) z := by kernel_rfl
theorem A5Right_q6 (n : Nat) (k2 : St → A5Right_R) (r4 : St → A5Right_R) (k5 : St → A5Right_R) (z : A5Right_t6) : codeK Tryz.prog A5Right_sp n A5Right_c14 A5Right_a16 (A5Right_m6 z) (A5Right_K11 k5 r4 k2) = A5Right_s6 n (fun y => k2 (A5Right_m2 y)) (fun y => r4 (A5Right_m4 y)) (fun y => k5 (A5Right_m5 y)) z := by
  have h10 : (fun y => codeK Tryz.prog A5Right_sp n A5Right_c9 A5Right_a14 (A5Right_m10 y) (A5Right_K6 k5 r4 k2)) = (A5Right_s10 n (fun y => k2 (A5Right_m2 y)) (fun y => r4 (A5Right_m4 y)) (fun y => k5 (A5Right_m5 y))) := funext fun y => by
    have := A5Right_q10 n k2 r4 k5 y
    exact this
  have h11 : (fun y => codeK Tryz.prog A5Right_sp n A5Right_c13 A5Right_a21 (A5Right_m11 y) (A5Right_K10 (fun st => codeK Tryz.prog A5Right_sp n A5Right_c9 A5Right_a14 st (A5Right_K6 k5 r4 k2)) k5 r4 k2)) = (A5Right_s11 n (fun y => k2 (A5Right_m2 y)) (fun y => r4 (A5Right_m4 y)) (fun y => k5 (A5Right_m5 y)) (A5Right_s10 n (fun y => k2 (A5Right_m2 y)) (fun y => r4 (A5Right_m4 y)) (fun y => k5 (A5Right_m5 y)))) := funext fun y => by
    have := A5Right_q11 n k2 r4 k5 (fun st => codeK Tryz.prog A5Right_sp n A5Right_c9 A5Right_a14 st (A5Right_K6 k5 r4 k2)) y
    rw [h10] at this; exact this
  rw [codeK_R, A5Right_e6]
  rw [h10]
  rw [h11]
  rfl
def A5Right_p7 (_n : Nat) (_k2 : A5Right_t2 → A5Right_R) (_r4 : A5Right_t4 → A5Right_R) (_k5 : A5Right_t5 → A5Right_R) (k6 : A5Right_t6 → A5Right_R) (z : A5Right_t7) : A5Right_R :=
  bif z.2.2.1 then
    some ((1 : Int), ())
  else
    k6 (z.1, z.2.1, z.2.2.2.1, z.2.2.2.2)
def A5Right_s7 (n : Nat) (k2 : A5Right_t2 → A5Right_R) (r4 : A5Right_t4 → A5Right_R) (k5 : A5Right_t5 → A5Right_R) (k6 : A5Right_t6 → A5Right_R) (z : A5Right_t7) : A5Right_R := A5Right_p7 n k2 r4 k5 k6 z
theorem A5Right_e7 (n : Nat) (k2 : St → A5Right_R) (r4 : St → A5Right_R) (k5 : St → A5Right_R) (k6 : St → A5Right_R) (rc : RC A5Right_R) (z : A5Right_t7) : codeR rc Tryz.prog A5Right_sp n A5Right_c15 A5Right_a22 (A5Right_m7 z) (A5Right_K12 k6 k5 r4 k2) = A5Right_p7 n (fun y => k2 (A5Right_m2 y)) (fun y => r4 (A5Right_m4 y)) (fun y => k5 (A5Right_m5 y)) (fun y => k6 (A5Right_m6 y)) z := by kernel_rfl
theorem A5Right_q7 (n : Nat) (k2 : St → A5Right_R) (r4 : St → A5Right_R) (k5 : St → A5Right_R) (k6 : St → A5Right_R) (z : A5Right_t7) : codeK Tryz.prog A5Right_sp n A5Right_c15 A5Right_a22 (A5Right_m7 z) (A5Right_K12 k6 k5 r4 k2) = A5Right_s7 n (fun y => k2 (A5Right_m2 y)) (fun y => r4 (A5Right_m4 y)) (fun y => k5 (A5Right_m5 y)) (fun y => k6 (A5Right_m6 y)) z := by
  rw [codeK_R, A5Right_e7]
  rfl
def A5Right_p4 (n : Nat) (k2 : A5Right_t2 → A5Right_R) (_r4 : A5Right_t4 → A5Right_R) (k5 : A5Right_t5 → A5Right_R) (k6 : A5Right_t6 → A5Right_R) (k7 : A5Right_t7 → A5Right_R) (z : A5Right_t4) : A5Right_R :=
  bif (decide (z.2.1 < z.1)) then
    bif decide (0 ≤ z.2.1) then
      ((z.2.2.1[Int.toNat z.2.1]?)).bind fun e1 =>
      ((A5within n (e1.1, ((86400 : Int), ())))).bind fun v2 =>
      bif (!v2.1) then
        k7 (z.1, z.2.1, true, z.2.2, e1)
      else
        bif (decide (e1.2.1 < 0)) then
          k7 (z.1, z.2.1, true, z.2.2, e1)
        else
          bif (decide (e1.2.1 > 2)) then
            k7 (z.1, z.2.1, true, z.2.2, e1)
          else
            bif (e1.2.1 == 1) then
              ((A5within n (e1.2.2.1, ((86400 : Int), ())))).bind fun v3 =>
              bif (!v3.1) then
                k7 (z.1, z.2.1, true, z.2.2, e1)
              else
                bif decide (0 ≤ z.2.1) then
                  ((z.2.2.2.1[Int.toNat z.2.1]?)).bind fun e4 =>
                  k7 (z.1, z.2.1, (decide ((List.length e4 : Int) > 24)), z.2.2, e1)
                else none
            else
              bif decide (0 ≤ z.2.1) then
                ((z.2.2.2.1[Int.toNat z.2.1]?)).bind fun e5 =>
                k7 (z.1, z.2.1, (decide ((List.length e5 : Int) > 24)), z.2.2, e1)
              else none
    else none
  else
    k2 (z.1, z.2.2)
def A5Right_s4 (n : Nat) (k2 : A5Right_t2 → A5Right_R) (r4 : A5Right_t4 → A5Right_R) (z : A5Right_t4) : A5Right_R := A5Right_p4 n k2 r4 (A5Right_s5 n k2 r4) (A5Right_s6 n k2 r4 (A5Right_s5 n k2 r4)) (A5Right_s7 n k2 r4 (A5Right_s5 n k2 r4) (A5Right_s6 n k2 r4 (A5Right_s5 n k2 r4))) z
theorem A5Right_e4 (n : Nat) (k2 : St → A5Right_R) (r4 : St → A5Right_R) (rc : RC A5Right_R) (z : A5Right_t4) : codeR rc Tryz.prog A5Right_sp n A5Right_c16 A5Right_a24 (A5Right_m4 z) (A5Right_K13 r4 k2) = A5Right_p4 n (fun y => k2 (A5Right_m2 y)) (fun y => r4 (A5Right_m4 y)) (fun y => rc A5Right_c7 A5Right_a9 (A5Right_m5 y) (A5Right_K4 r4 k2)) (fun y => rc A5Right_c14 A5Right_a16 (A5Right_m6 y) (A5Right_K11 (fun st => rc A5Right_c7 A5Right_a9 st (A5Right_K4 r4 k2)) r4 k2)) (fun y => rc A5Right_c15 A5Right_a22 (A5Right_m7 y) (A5Right_K12 (fun st => rc A5Right_c14 A5Right_a16 st (A5Right_K11 (fun st => rc A5Right_c7 A5Right_a9 st (A5Right_K4 r4 k2)) r4 k2)) (fun st => rc A5Right_c7 A5Right_a9 st (A5Right_K4 r4 k2)) r4 k2)) z := by kernel_rfl
theorem A5Right_q4 (n : Nat) (k2 : St → A5Right_R) (r4 : St → A5Right_R) (z : A5Right_t4) : codeK Tryz.prog A5Right_sp n A5Right_c16 A5Right_a24 (A5Right_m4 z) (A5Right_K13 r4 k2) = A5Right_s4 n (fun y => k2 (A5Right_m2 y)) (fun y => r4 (A5Right_m4 y)) z := by
  have h5 : (fun y => codeK Tryz.prog A5Right_sp n A5Right_c7 A5Right_a9 (A5Right_m5 y) (A5Right_K4 r4 k2)) = (A5Right_s5 n (fun y => k2 (A5Right_m2 y)) (fun y => r4 (A5Right_m4 y))) := funext fun y => by
    have := A5Right_q5 n k2 r4 y
    exact this
  have h6 : (fun y => codeK Tryz.prog A5Right_sp n A5Right_c14 A5Right_a16 (A5Right_m6 y) (A5Right_K11 (fun st => codeK Tryz.prog A5Right_sp n A5Right_c7 A5Right_a9 st (A5Right_K4 r4 k2)) r4 k2)) = (A5Right_s6 n (fun y => k2 (A5Right_m2 y)) (fun y => r4 (A5Right_m4 y)) (A5Right_s5 n (fun y => k2 (A5Right_m2 y)) (fun y => r4 (A5Right_m4 y)))) := funext fun y => by
    have := A5Right_q6 n k2 r4 (fun st => codeK Tryz.prog A5Right_sp n A5Right_c7 A5Right_a9 st (A5Right_K4 r4 k2)) y
    rw [h5] at this; exact this
  have h7 : (fun y => codeK Tryz.prog A5Right_sp n A5Right_c15 A5Right_a22 (A5Right_m7 y) (A5Right_K12 (fun st => codeK Tryz.prog A5Right_sp n A5Right_c14 A5Right_a16 st (A5Right_K11 (fun st => codeK Tryz.prog A5Right_sp n A5Right_c7 A5Right_a9 st (A5Right_K4 r4 k2)) r4 k2)) (fun st => codeK Tryz.prog A5Right_sp n A5Right_c7 A5Right_a9 st (A5Right_K4 r4 k2)) r4 k2)) = (A5Right_s7 n (fun y => k2 (A5Right_m2 y)) (fun y => r4 (A5Right_m4 y)) (A5Right_s5 n (fun y => k2 (A5Right_m2 y)) (fun y => r4 (A5Right_m4 y))) (A5Right_s6 n (fun y => k2 (A5Right_m2 y)) (fun y => r4 (A5Right_m4 y)) (A5Right_s5 n (fun y => k2 (A5Right_m2 y)) (fun y => r4 (A5Right_m4 y))))) := funext fun y => by
    have := A5Right_q7 n k2 r4 (fun st => codeK Tryz.prog A5Right_sp n A5Right_c7 A5Right_a9 st (A5Right_K4 r4 k2)) (fun st => codeK Tryz.prog A5Right_sp n A5Right_c14 A5Right_a16 st (A5Right_K11 (fun st => codeK Tryz.prog A5Right_sp n A5Right_c7 A5Right_a9 st (A5Right_K4 r4 k2)) r4 k2)) y
    rw [h5] at this; rw [h6] at this; exact this
  rw [codeK_R, A5Right_e4]
  rw [h5]
  rw [h6]
  rw [h7]
  rfl
def A5Right_s3 (n : Nat) (k2 : A5Right_t2 → A5Right_R) (z : A5Right_t3) : A5Right_R :=
  rounds (fun r4 x' => A5Right_s4 n k2 r4 x') n (z.1, z.2.1, z.2.2)
theorem A5Right_q3 (n : Nat) (k2 : St → A5Right_R) (z : A5Right_t3) : codeK Tryz.prog A5Right_sp n A5Right_c17 A5Right_a25 (A5Right_m3 z) (A5Right_K14 k2) = A5Right_s3 n (fun y => k2 (A5Right_m2 y)) z :=
  Eq.trans (b := rounds (fun r4 st => codeK Tryz.prog A5Right_sp n A5Right_c16 A5Right_a24 st (A5Right_K13 r4 k2)) n (A5Right_m4 (z.1, z.2.1, z.2.2))) (by kernel_rfl) (rounds_mk A5Right_m4 (fun r4 x' => by
    have := (A5Right_q4 n k2 r4 x')
    exact this) n _)
def A5Right_p0 (_n : Nat) (k2 : A5Right_t2 → A5Right_R) (k3 : A5Right_t3 → A5Right_R) (z : A5Right_t0) : A5Right_R :=
  k3 (z.1, (0 : Int), z.2)
def A5Right_s0 (n : Nat) (z : A5Right_t0) : A5Right_R := A5Right_p0 n (A5Right_s2 n) (A5Right_s3 n (A5Right_s2 n)) z
theorem A5Right_e0 (n : Nat) (rc : RC A5Right_R) (z : A5Right_t0) : codeR rc Tryz.prog A5Right_sp n A5Right_c18 A5Right_a10 (A5Right_m0 z) (kFin Tryz.prog A5Right_rs Tryz.f24) = A5Right_p0 n (fun y => rc A5Right_c6 A5Right_a6 (A5Right_m2 y) (kFin Tryz.prog A5Right_rs Tryz.f24)) (fun y => rc A5Right_c17 A5Right_a25 (A5Right_m3 y) (A5Right_K14 (fun st => rc A5Right_c6 A5Right_a6 st (kFin Tryz.prog A5Right_rs Tryz.f24)))) z := by kernel_rfl
theorem A5Right_q0 (n : Nat) (z : A5Right_t0) : codeK Tryz.prog A5Right_sp n A5Right_c18 A5Right_a10 (A5Right_m0 z) (kFin Tryz.prog A5Right_rs Tryz.f24) = A5Right_s0 n z := by
  have h2 : (fun y => codeK Tryz.prog A5Right_sp n A5Right_c6 A5Right_a6 (A5Right_m2 y) (kFin Tryz.prog A5Right_rs Tryz.f24)) = (A5Right_s2 n) := funext fun y => by
    have := A5Right_q2 n  y
    exact this
  have h3 : (fun y => codeK Tryz.prog A5Right_sp n A5Right_c17 A5Right_a25 (A5Right_m3 y) (A5Right_K14 (fun st => codeK Tryz.prog A5Right_sp n A5Right_c6 A5Right_a6 st (kFin Tryz.prog A5Right_rs Tryz.f24)))) = (A5Right_s3 n (A5Right_s2 n)) := funext fun y => by
    have := A5Right_q3 n (fun st => codeK Tryz.prog A5Right_sp n A5Right_c6 A5Right_a6 st (kFin Tryz.prog A5Right_rs Tryz.f24)) y
    rw [h2] at this; exact this
  rw [codeK_R, A5Right_e0]
  rw [h2]
  rw [h3]
  rfl
def A5Right_p1 (_n : Nat) (k0 : A5Right_t0 → A5Right_R) (z : A5Right_t1) : A5Right_R :=
  bif z.2.1 then
    some ((1 : Int), ())
  else
    k0 (z.1, z.2.2)
def A5Right_s1 (n : Nat) (k0 : A5Right_t0 → A5Right_R) (z : A5Right_t1) : A5Right_R := A5Right_p1 n k0 z
theorem A5Right_e1 (n : Nat) (k0 : St → A5Right_R) (rc : RC A5Right_R) (z : A5Right_t1) : codeR rc Tryz.prog A5Right_sp n A5Right_c19 A5Right_a26 (A5Right_m1 z) (A5Right_K15 k0) = A5Right_p1 n (fun y => k0 (A5Right_m0 y)) z := by kernel_rfl
theorem A5Right_q1 (n : Nat) (k0 : St → A5Right_R) (z : A5Right_t1) : codeK Tryz.prog A5Right_sp n A5Right_c19 A5Right_a26 (A5Right_m1 z) (A5Right_K15 k0) = A5Right_s1 n (fun y => k0 (A5Right_m0 y)) z := by
  rw [codeK_R, A5Right_e1]
  rfl
def A5Right_px (_n : Nat) (k0 : A5Right_t0 → A5Right_R) (k1 : A5Right_t1 → A5Right_R) (x : (D_A5Zone × Unit)) : A5Right_R :=
  bif (decide ((List.length x.1.1 : Int) < 1)) then
    k1 ((List.length x.1.1 : Int), true, x.1)
  else
    bif (decide ((List.length x.1.1 : Int) > 8)) then
      k1 ((List.length x.1.1 : Int), true, x.1)
    else
      k1 ((List.length x.1.1 : Int), ((List.length x.1.2.1 : Int) != (List.length x.1.1 : Int)), x.1)
def A5Right (n : Nat) (x : (D_A5Zone × Unit)) : A5Right_R := A5Right_px n (A5Right_s0 n) (A5Right_s1 n (A5Right_s0 n)) x
theorem A5Right_ex (n : Nat) (rc : RC A5Right_R) (x : (D_A5Zone × Unit)) : codeR rc Tryz.prog A5Right_sp n (bodyOf Tryz.f24) A5Right_an (start A5Right_ps x (Func.ntmps Tryz.f24)) (kFin Tryz.prog A5Right_rs Tryz.f24) = A5Right_px n (fun y => rc A5Right_c18 A5Right_a10 (A5Right_m0 y) (kFin Tryz.prog A5Right_rs Tryz.f24)) (fun y => rc A5Right_c19 A5Right_a26 (A5Right_m1 y) (A5Right_K15 (fun st => rc A5Right_c18 A5Right_a10 st (kFin Tryz.prog A5Right_rs Tryz.f24)))) x := by kernel_rfl
theorem A5Right_qx (n : Nat) (x : (D_A5Zone × Unit)) : codeK Tryz.prog A5Right_sp n (bodyOf Tryz.f24) A5Right_an (start A5Right_ps x (Func.ntmps Tryz.f24)) (kFin Tryz.prog A5Right_rs Tryz.f24) = A5Right n x := by
  have h0 : (fun y => codeK Tryz.prog A5Right_sp n A5Right_c18 A5Right_a10 (A5Right_m0 y) (kFin Tryz.prog A5Right_rs Tryz.f24)) = (A5Right_s0 n) := funext fun y => by
    have := A5Right_q0 n  y
    exact this
  have h1 : (fun y => codeK Tryz.prog A5Right_sp n A5Right_c19 A5Right_a26 (A5Right_m1 y) (A5Right_K15 (fun st => codeK Tryz.prog A5Right_sp n A5Right_c18 A5Right_a10 st (kFin Tryz.prog A5Right_rs Tryz.f24)))) = (A5Right_s1 n (A5Right_s0 n)) := funext fun y => by
    have := A5Right_q1 n (fun st => codeK Tryz.prog A5Right_sp n A5Right_c18 A5Right_a10 st (kFin Tryz.prog A5Right_rs Tryz.f24)) y
    rw [h0] at this; exact this
  rw [codeK_R, A5Right_ex]
  rw [h0]
  rw [h1]
  rfl
def A5Right_spec : Sp := ⟨A5Right_ps, A5Right_rs, A5Right⟩
theorem A5Right_ok : SoundX Tryz.prog CX 24 (.f A5Right_spec) := sound_of (look_cons A5End_ok (look_cons A5within_ok (look_cons A5clock_ok look_nil))) Tryz.func24 (by kernel_rfl) rfl A5Right_an A5Right_spec rfl rfl A5Right_qx

/-! ### noonmark/noonmarkref15.At -/
abbrev A5At_ps : Ty := (.pair T_A5Zone (.pair (.int .i64) .unit))
abbrev A5At_rs : Ty := (.pair T_DeState (.pair (.int .i64) .unit))
def A5At_sp : Specs := look [(24, .f A5Right_spec), (25, .f A5Reach_spec), (26, .f A5End_spec), (27, .f A5Zone_saving_spec)]
def A5At_an : An := (.s .o (.s .o (.s .o (.k [] [1,2,4,9] 2 .o (.k [] [1,2,4,9] 2 (.b (.l [] [1,2,4,9] 2 .o)) .o)))))
abbrev A5At_R := Option (D_DeState × (Int × Unit))
noncomputable abbrev A5At_c0 : Code := (cl (cl (cl (cr (cr (cr (cr (bodyOf Tryz.f13))))))))
noncomputable abbrev A5At_c1 : Code := (cr (cr (cr (cr (cr (bodyOf Tryz.f13))))))
noncomputable abbrev A5At_c2 : Code := (cr (cr (cr (cr (bodyOf Tryz.f13)))))
noncomputable abbrev A5At_a0 : An := A5At_an.right.right.right.right.left.left.left
noncomputable abbrev A5At_a1 : An := A5At_an.right.right.right.right
noncomputable abbrev A5At_a2 : An := A5At_an.right.right.right.right.left.left
noncomputable abbrev A5At_a3 : An := A5At_an.right.right.right.right.right
noncomputable abbrev A5At_K0 (r2 k1 : St → A5At_R) : Ex → St → A5At_R := (kSeq r2 A5At_a2 (kBlk 0 (kSeq k1 A5At_a1 (kFin Tryz.prog A5At_rs Tryz.f13))))
abbrev A5At_t0 := Int × Int × D_A5Zone × D_DeState
def A5At_m0 (z : A5At_t0) : St := ⟨(.junk :: .v ⟨(.int .i64), z.1⟩ :: .v ⟨(.ptr 0 0 T_A5Zone), ()⟩ :: .junk :: .v ⟨(.ptr 1 0 T_DeState), ()⟩ :: jk 4 (.v ⟨(.int .i64), z.2.1⟩ :: jk 42 [])), [some (.one ⟨T_A5Zone, z.2.2.1⟩), some (.one ⟨T_DeState, z.2.2.2⟩)]⟩
abbrev A5At_t1 := Int × Int × D_A5Zone × D_DeState
def A5At_m1 (z : A5At_t1) : St := ⟨(.junk :: .v ⟨(.int .i64), z.1⟩ :: .v ⟨(.ptr 0 0 T_A5Zone), ()⟩ :: .junk :: .v ⟨(.ptr 1 0 T_DeState), ()⟩ :: jk 4 (.v ⟨(.int .i64), z.2.1⟩ :: jk 42 [])), [some (.one ⟨T_A5Zone, z.2.2.1⟩), some (.one ⟨T_DeState, z.2.2.2⟩)]⟩
abbrev A5At_t2 := Int × Int × D_A5Zone × D_DeState
def A5At_m2 (z : A5At_t2) : St := ⟨(.junk :: .v ⟨(.int .i64), z.1⟩ :: .v ⟨(.ptr 0 0 T_A5Zone), ()⟩ :: .junk :: .v ⟨(.ptr 1 0 T_DeState), ()⟩ :: jk 4 (.v ⟨(.int .i64), z.2.1⟩ :: jk 42 [])), [some (.one ⟨T_A5Zone, z.2.2.1⟩), some (.one ⟨T_DeState, z.2.2.2⟩)]⟩
def A5At_p2 (n : Nat) (k1 : A5At_t1 → A5At_R) (r2 : A5At_t2 → A5At_R) (z : A5At_t2) : A5At_R :=
  bif (decide (z.2.1 < (w64 ((List.length z.2.2.1.1 : Int) - 1)))) then
    ((A5End n (z.2.2.1, (z.2.1, ())))).bind fun v4 =>
    bif (decide (v4.1 ≤ z.1)) then
      r2 (z.1, (w64 (z.2.1 + 1)), z.2.2.1, z.2.2.2)
    else
      k1 (z.1, z.2.1, z.2.2.1, z.2.2.2)
  else
    k1 (z.1, z.2.1, z.2.2.1, z.2.2.2)
def A5At_s2 (n : Nat) (k1 : A5At_t1 → A5At_R) (r2 : A5At_t2 → A5At_R) (z : A5At_t2) : A5At_R := A5At_p2 n k1 r2 z
theorem A5At_e2 (n : Nat) (k1 : St → A5At_R) (r2 : St → A5At_R) (rc : RC A5At_R) (z : A5At_t2) : codeR rc Tryz.prog A5At_sp n A5At_c0 A5At_a0 (A5At_m2 z) (A5At_K0 r2 k1) = A5At_p2 n (fun y => k1 (A5At_m1 y)) (fun y => r2 (A5At_m2 y)) z := by kernel_rfl
theorem A5At_q2 (n : Nat) (k1 : St → A5At_R) (r2 : St → A5At_R) (z : A5At_t2) : codeK Tryz.prog A5At_sp n A5At_c0 A5At_a0 (A5At_m2 z) (A5At_K0 r2 k1) = A5At_s2 n (fun y => k1 (A5At_m1 y)) (fun y => r2 (A5At_m2 y)) z := by
  rw [codeK_R, A5At_e2]
  rfl
def A5At_p1 (n : Nat) (z : A5At_t1) : A5At_R :=
  ((A5Zone_saving n (z.2.2.1, (z.2.1, (z.1, ()))))).bind fun v6 =>
  some ((z.2.1, (v6.1, (v6.2.1, ()))), ((0 : Int), ()))
def A5At_s1 (n : Nat) (z : A5At_t1) : A5At_R := A5At_p1 n z
theorem A5At_e1 (n : Nat) (rc : RC A5At_R) (z : A5At_t1) : codeR rc Tryz.prog A5At_sp n A5At_c1 A5At_a3 (A5At_m1 z) (kFin Tryz.prog A5At_rs Tryz.f13) = A5At_p1 n z := by kernel_rfl
theorem A5At_q1 (n : Nat) (z : A5At_t1) : codeK Tryz.prog A5At_sp n A5At_c1 A5At_a3 (A5At_m1 z) (kFin Tryz.prog A5At_rs Tryz.f13) = A5At_s1 n z := by
  rw [codeK_R, A5At_e1]
  rfl
def A5At_s0 (n : Nat) (z : A5At_t0) : A5At_R :=
  rounds (fun r2 x' => A5At_s2 n (A5At_s1 n) r2 x') n (z.1, z.2.1, z.2.2.1, z.2.2.2)
theorem A5At_q0 (n : Nat) (z : A5At_t0) : codeK Tryz.prog A5At_sp n A5At_c2 A5At_a1 (A5At_m0 z) (kFin Tryz.prog A5At_rs Tryz.f13) = A5At_s0 n z :=
  Eq.trans (b := rounds (fun r2 st => codeK Tryz.prog A5At_sp n A5At_c0 A5At_a0 st (A5At_K0 r2 (fun st => codeK Tryz.prog A5At_sp n A5At_c1 A5At_a3 st (kFin Tryz.prog A5At_rs Tryz.f13)))) n (A5At_m2 (z.1, z.2.1, z.2.2.1, z.2.2.2))) (by kernel_rfl) (rounds_mk A5At_m2 (fun r2 x' => by
    have h1 : (fun y => codeK Tryz.prog A5At_sp n A5At_c1 A5At_a3 (A5At_m1 y) (kFin Tryz.prog A5At_rs Tryz.f13)) = (A5At_s1 n) := funext fun y => by
      have := A5At_q1 n  y
      exact this
    have := (A5At_q2 n (fun st => codeK Tryz.prog A5At_sp n A5At_c1 A5At_a3 st (kFin Tryz.prog A5At_rs Tryz.f13)) r2 x')
    rw [h1] at this
    exact this) n _)
def A5At_px (n : Nat) (k0 : A5At_t0 → A5At_R) (x : (D_A5Zone × (Int × Unit))) : A5At_R :=
  ((A5Right n (x.1, ()))).bind fun v1 =>
  bif (v1.1 != 0) then
    some (((0 : Int), ((0 : Int), ((⟨#[]⟩ : ByteArray), ()))), (v1.1, ()))
  else
    ((A5Reach n (x.2.1, ()))).bind fun v2 =>
    bif (!v2.2.1) then
      some (((0 : Int), ((0 : Int), ((⟨#[]⟩ : ByteArray), ()))), ((2 : Int), ()))
    else
      k0 (x.2.1, (0 : Int), x.1, ((0 : Int), ((0 : Int), ((⟨#[]⟩ : ByteArray), ()))))
def A5At (n : Nat) (x : (D_A5Zone × (Int × Unit))) : A5At_R := A5At_px n (A5At_s0 n) x
theorem A5At_ex (n : Nat) (rc : RC A5At_R) (x : (D_A5Zone × (Int × Unit))) : codeR rc Tryz.prog A5At_sp n (bodyOf Tryz.f13) A5At_an (start A5At_ps x (Func.ntmps Tryz.f13)) (kFin Tryz.prog A5At_rs Tryz.f13) = A5At_px n (fun y => rc A5At_c2 A5At_a1 (A5At_m0 y) (kFin Tryz.prog A5At_rs Tryz.f13)) x := by kernel_rfl
theorem A5At_qx (n : Nat) (x : (D_A5Zone × (Int × Unit))) : codeK Tryz.prog A5At_sp n (bodyOf Tryz.f13) A5At_an (start A5At_ps x (Func.ntmps Tryz.f13)) (kFin Tryz.prog A5At_rs Tryz.f13) = A5At n x := by
  have h0 : (fun y => codeK Tryz.prog A5At_sp n A5At_c2 A5At_a1 (A5At_m0 y) (kFin Tryz.prog A5At_rs Tryz.f13)) = (A5At_s0 n) := funext fun y => by
    have := A5At_q0 n  y
    exact this
  rw [codeK_R, A5At_ex]
  rw [h0]
  rfl
def A5At_spec : Sp := ⟨A5At_ps, A5At_rs, A5At⟩
theorem A5At_ok : SoundX Tryz.prog CX 13 (.f A5At_spec) := sound_of (look_cons A5Right_ok (look_cons A5Reach_ok (look_cons A5End_ok (look_cons A5Zone_saving_ok look_nil)))) Tryz.func13 (by kernel_rfl) rfl A5At_an A5At_spec rfl rfl A5At_qx
end Go.Proofs.YtadamegddcadcaaGreatDoorPi
