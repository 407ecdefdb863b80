import Derived.Test.YtadamegddcadcaaGreatDoorFnB
set_option linter.unusedVariables false
set_option maxRecDepth 100000
set_option maxHeartbeats 4000000
set_option linter.unusedVariables false
namespace Go.Proofs.YtadamegddcadcaaGreatDoorPi
open Go Go.Proofs
abbrev T_DeState : Ty := (.pair (.int .i64) (.pair (.int .i64) (.pair .str .unit)))
abbrev D_DeState := (Int × (Int × (ByteArray × Unit)))
abbrev T_api_Until : Ty := (.pair .bool (.pair (.int .i64) (.pair (.int .i64) (.pair T_api_Day (.pair T_api_At .unit)))))
abbrev D_api_Until := (Bool × (Int × (Int × (D_api_Day × (D_api_At × Unit)))))
abbrev T_api_Era : Ty := (.pair (.int .i64) (.pair (.int .i64) (.pair (.int .i64) (.pair .str (.pair .str (.pair T_api_Until .unit))))))
abbrev D_api_Era := (Int × (Int × (Int × (ByteArray × (ByteArray × (D_api_Until × Unit))))))
abbrev T_A5Zone : Ty := (.pair (.list T_api_Era) (.pair (.list (.list T_api_Rule)) .unit))
abbrev D_A5Zone := ((List D_api_Era) × ((List (List D_api_Rule)) × Unit))
/-! ### noonmark/noonmarklaw14.Light -/
abbrev B4Light_ps : Ty := (.pair (.list T_api_Rule) (.pair (.int .i64) .unit))
abbrev B4Light_rs : Ty := (.pair .bool .unit)
def B4Light_sp : Specs := look []
def B4Light_an : An := (.s .o (.s .o (.k [] [] 0 (.k [] [0,5] 0 .o (.b (.l [] [0,5] 0 (.s .o (.k [] [0,5] 0 (.b (.s .o (.k [] [0,5,83] 0 .o .o))) .o))))) .o)))
abbrev B4Light_R := Option (Bool × Unit)
noncomputable abbrev B4Light_c0 : Code := (cr (cr (cr (bodyOf Tryz.f9))))
noncomputable abbrev B4Light_c1 : Code := (cr (cr (cl (cl (cr (cl (cr (cr (bodyOf Tryz.f9)))))))))
noncomputable abbrev B4Light_c2 : Code := (cr (cr (cl (cl (cr (cl (cl (cr (cl (cr (cr (bodyOf Tryz.f9))))))))))))
noncomputable abbrev B4Light_c3 : Code := (cl (cl (cr (cl (cr (cr (bodyOf Tryz.f9)))))))
noncomputable abbrev B4Light_c4 : Code := (cr (cl (cr (cr (bodyOf Tryz.f9)))))
noncomputable abbrev B4Light_a0 : An := B4Light_an.right.right.right
noncomputable abbrev B4Light_a1 : An := B4Light_an.right.right.left.right.left.left.right.right
noncomputable abbrev B4Light_a2 : An := B4Light_an.right.right
noncomputable abbrev B4Light_a3 : An := B4Light_an.right.right.left.right.left
noncomputable abbrev B4Light_a4 : An := B4Light_an.right.right.left.right.left.left.right.left.left.right.right
noncomputable abbrev B4Light_a5 : An := B4Light_an.right.right.left.right.left.left.right
noncomputable abbrev B4Light_a6 : An := B4Light_an.right.right.left.right.left.left
noncomputable abbrev B4Light_a7 : An := B4Light_an.right.right.left.right
noncomputable abbrev B4Light_K0 (r2 k0 : St → B4Light_R) : Ex → St → B4Light_R := (kSeq r2 B4Light_a3 (kBlk 0 (kSeq k0 B4Light_a2 (kFin Tryz.prog B4Light_rs Tryz.f9))))
noncomputable abbrev B4Light_K1 (k3 r2 k0 : St → B4Light_R) : Ex → St → B4Light_R := (kBlk 1 (kSeq k3 B4Light_a5 (kSeq r2 B4Light_a3 (kBlk 0 (kSeq k0 B4Light_a2 (kFin Tryz.prog B4Light_rs Tryz.f9))))))
noncomputable abbrev B4Light_K2 (r2 k0 : St → B4Light_R) : Ex → St → B4Light_R := (kSeq r2 B4Light_a3 (kBlk 0 (kSeq k0 B4Light_a2 (kFin Tryz.prog B4Light_rs Tryz.f9))))
noncomputable abbrev B4Light_K3 (k0 : St → B4Light_R) : Ex → St → B4Light_R := (kSeq k0 B4Light_a2 (kFin Tryz.prog B4Light_rs Tryz.f9))
abbrev B4Light_t0 := Unit
def B4Light_m0 (_z : B4Light_t0) : St := ⟨(jk 84 []), []⟩
abbrev B4Light_t1 := (List D_api_Rule) × Int
def B4Light_m1 (z : B4Light_t1) : St := ⟨(.v ⟨(.list T_api_Rule), z.1⟩ :: jk 4 (.v ⟨(.int .i64), z.2⟩ :: jk 78 [])), []⟩
abbrev B4Light_t2 := (List D_api_Rule) × Int
def B4Light_m2 (z : B4Light_t2) : St := ⟨(.v ⟨(.list T_api_Rule), z.1⟩ :: jk 4 (.v ⟨(.int .i64), z.2⟩ :: jk 78 [])), []⟩
abbrev B4Light_t3 := (List D_api_Rule) × Int
def B4Light_m3 (z : B4Light_t3) : St := ⟨(.v ⟨(.list T_api_Rule), z.1⟩ :: jk 4 (.v ⟨(.int .i64), z.2⟩ :: jk 78 [])), []⟩
abbrev B4Light_t4 := (List D_api_Rule) × Int × Bool
def B4Light_m4 (z : B4Light_t4) : St := ⟨(.v ⟨(.list T_api_Rule), z.1⟩ :: jk 4 (.v ⟨(.int .i64), z.2.1⟩ :: jk 77 (.v ⟨.bool, z.2.2⟩ :: []))), []⟩
def B4Light_p0 (_n : Nat) (_z : B4Light_t0) : B4Light_R :=
  some (true, ())
def B4Light_s0 (n : Nat) (z : B4Light_t0) : B4Light_R := B4Light_p0 n z
theorem B4Light_e0 (n : Nat) (rc : RC B4Light_R) (z : B4Light_t0) : codeR rc Tryz.prog B4Light_sp n B4Light_c0 B4Light_a0 (B4Light_m0 z) (kFin Tryz.prog B4Light_rs Tryz.f9) = B4Light_p0 n z := by kernel_rfl
theorem B4Light_q0 (n : Nat) (z : B4Light_t0) : codeK Tryz.prog B4Light_sp n B4Light_c0 B4Light_a0 (B4Light_m0 z) (kFin Tryz.prog B4Light_rs Tryz.f9) = B4Light_s0 n z := by
  rw [codeK_R, B4Light_e0]
  rfl
def B4Light_p3 (_n : Nat) (_k0 : B4Light_t0 → B4Light_R) (r2 : B4Light_t2 → B4Light_R) (z : B4Light_t3) : B4Light_R :=
  r2 (z.1, (w64 (z.2 + 1)))
def B4Light_s3 (n : Nat) (k0 : B4Light_t0 → B4Light_R) (r2 : B4Light_t2 → B4Light_R) (z : B4Light_t3) : B4Light_R := B4Light_p3 n k0 r2 z
theorem B4Light_e3 (n : Nat) (k0 : St → B4Light_R) (r2 : St → B4Light_R) (rc : RC B4Light_R) (z : B4Light_t3) : codeR rc Tryz.prog B4Light_sp n B4Light_c1 B4Light_a1 (B4Light_m3 z) (B4Light_K0 r2 k0) = B4Light_p3 n (fun y => k0 (B4Light_m0 y)) (fun y => r2 (B4Light_m2 y)) z := by kernel_rfl
theorem B4Light_q3 (n : Nat) (k0 : St → B4Light_R) (r2 : St → B4Light_R) (z : B4Light_t3) : codeK Tryz.prog B4Light_sp n B4Light_c1 B4Light_a1 (B4Light_m3 z) (B4Light_K0 r2 k0) = B4Light_s3 n (fun y => k0 (B4Light_m0 y)) (fun y => r2 (B4Light_m2 y)) z := by
  rw [codeK_R, B4Light_e3]
  rfl
def B4Light_p4 (_n : Nat) (_k0 : B4Light_t0 → B4Light_R) (_r2 : B4Light_t2 → B4Light_R) (k3 : B4Light_t3 → B4Light_R) (z : B4Light_t4) : B4Light_R :=
  bif z.2.2 then
    some (false, ())
  else
    k3 (z.1, z.2.1)
def B4Light_s4 (n : Nat) (k0 : B4Light_t0 → B4Light_R) (r2 : B4Light_t2 → B4Light_R) (k3 : B4Light_t3 → B4Light_R) (z : B4Light_t4) : B4Light_R := B4Light_p4 n k0 r2 k3 z
theorem B4Light_e4 (n : Nat) (k0 : St → B4Light_R) (r2 : St → B4Light_R) (k3 : St → B4Light_R) (rc : RC B4Light_R) (z : B4Light_t4) : codeR rc Tryz.prog B4Light_sp n B4Light_c2 B4Light_a4 (B4Light_m4 z) (B4Light_K1 k3 r2 k0) = B4Light_p4 n (fun y => k0 (B4Light_m0 y)) (fun y => r2 (B4Light_m2 y)) (fun y => k3 (B4Light_m3 y)) z := by kernel_rfl
theorem B4Light_q4 (n : Nat) (k0 : St → B4Light_R) (r2 : St → B4Light_R) (k3 : St → B4Light_R) (z : B4Light_t4) : codeK Tryz.prog B4Light_sp n B4Light_c2 B4Light_a4 (B4Light_m4 z) (B4Light_K1 k3 r2 k0) = B4Light_s4 n (fun y => k0 (B4Light_m0 y)) (fun y => r2 (B4Light_m2 y)) (fun y => k3 (B4Light_m3 y)) z := by
  rw [codeK_R, B4Light_e4]
  rfl
def B4Light_p2 (_n : Nat) (k0 : B4Light_t0 → B4Light_R) (_r2 : B4Light_t2 → B4Light_R) (k3 : B4Light_t3 → B4Light_R) (k4 : B4Light_t4 → B4Light_R) (z : B4Light_t2) : B4Light_R :=
  bif (decide (z.2 < (List.length z.1 : Int))) then
    bif decide (0 ≤ z.2) then
      ((z.1[Int.toNat z.2]?)).bind fun e1 =>
      bif decide (0 ≤ z.2) then
        ((z.1[Int.toNat z.2]?)).bind fun e2 =>
        bif (decide (e1.2.2.2.2.2.1.1 < (-700000))) then
          k4 (z.1, z.2, true)
        else
          bif (decide (e1.2.2.2.2.2.1.1 > 700000)) then
            k4 (z.1, z.2, true)
          else
            bif (decide (e2.2.2.2.2.2.2.1 < (-100000))) then
              k4 (z.1, z.2, true)
            else
              bif (decide (e2.2.2.2.2.2.2.1 > 100000)) then
                k4 (z.1, z.2, true)
              else
                bif decide (0 ≤ z.2) then
                  ((z.1[Int.toNat z.2]?)).bind fun e3 =>
                  bif (decide ((ByteArray.size e3.2.2.2.2.2.2.2.1 : Int) > 50)) then
                    k4 (z.1, z.2, true)
                  else
                    bif decide (0 ≤ z.2) then
                      ((z.1[Int.toNat z.2]?)).bind fun e4 =>
                      bif (decide (e4.2.1 < (-20000))) then
                        k4 (z.1, z.2, true)
                      else
                        bif decide (0 ≤ z.2) then
                          ((z.1[Int.toNat z.2]?)).bind fun e5 =>
                          bif (decide (e5.2.1 > 20000)) then
                            k4 (z.1, z.2, true)
                          else
                            bif decide (0 ≤ z.2) then
                              ((z.1[Int.toNat z.2]?)).bind fun e6 =>
                              bif (decide (e6.2.2.1 < (-20000))) then
                                k4 (z.1, z.2, true)
                              else
                                bif decide (0 ≤ z.2) then
                                  ((z.1[Int.toNat z.2]?)).bind fun e7 =>
                                  k4 (z.1, z.2, (decide (e7.2.2.1 > 20000)))
                                else none
                            else none
                        else none
                    else none
                else none
      else none
    else none
  else
    k0 ()
def B4Light_s2 (n : Nat) (k0 : B4Light_t0 → B4Light_R) (r2 : B4Light_t2 → B4Light_R) (z : B4Light_t2) : B4Light_R := B4Light_p2 n k0 r2 (B4Light_s3 n k0 r2) (B4Light_s4 n k0 r2 (B4Light_s3 n k0 r2)) z
theorem B4Light_e2 (n : Nat) (k0 : St → B4Light_R) (r2 : St → B4Light_R) (rc : RC B4Light_R) (z : B4Light_t2) : codeR rc Tryz.prog B4Light_sp n B4Light_c3 B4Light_a6 (B4Light_m2 z) (B4Light_K2 r2 k0) = B4Light_p2 n (fun y => k0 (B4Light_m0 y)) (fun y => r2 (B4Light_m2 y)) (fun y => rc B4Light_c1 B4Light_a1 (B4Light_m3 y) (B4Light_K0 r2 k0)) (fun y => rc B4Light_c2 B4Light_a4 (B4Light_m4 y) (B4Light_K1 (fun st => rc B4Light_c1 B4Light_a1 st (B4Light_K0 r2 k0)) r2 k0)) z := by kernel_rfl
theorem B4Light_q2 (n : Nat) (k0 : St → B4Light_R) (r2 : St → B4Light_R) (z : B4Light_t2) : codeK Tryz.prog B4Light_sp n B4Light_c3 B4Light_a6 (B4Light_m2 z) (B4Light_K2 r2 k0) = B4Light_s2 n (fun y => k0 (B4Light_m0 y)) (fun y => r2 (B4Light_m2 y)) z := by
  have h3 : (fun y => codeK Tryz.prog B4Light_sp n B4Light_c1 B4Light_a1 (B4Light_m3 y) (B4Light_K0 r2 k0)) = (B4Light_s3 n (fun y => k0 (B4Light_m0 y)) (fun y => r2 (B4Light_m2 y))) := funext fun y => by
    have := B4Light_q3 n k0 r2 y
    exact this
  have h4 : (fun y => codeK Tryz.prog B4Light_sp n B4Light_c2 B4Light_a4 (B4Light_m4 y) (B4Light_K1 (fun st => codeK Tryz.prog B4Light_sp n B4Light_c1 B4Light_a1 st (B4Light_K0 r2 k0)) r2 k0)) = (B4Light_s4 n (fun y => k0 (B4Light_m0 y)) (fun y => r2 (B4Light_m2 y)) (B4Light_s3 n (fun y => k0 (B4Light_m0 y)) (fun y => r2 (B4Light_m2 y)))) := funext fun y => by
    have := B4Light_q4 n k0 r2 (fun st => codeK Tryz.prog B4Light_sp n B4Light_c1 B4Light_a1 st (B4Light_K0 r2 k0)) y
    rw [h3] at this; exact this
  rw [codeK_R, B4Light_e2]
  rw [h3]
  rw [h4]
  rfl
def B4Light_s1 (n : Nat) (k0 : B4Light_t0 → B4Light_R) (z : B4Light_t1) : B4Light_R :=
  rounds (fun r2 x' => B4Light_s2 n k0 r2 x') n (z.1, z.2)
theorem B4Light_q1 (n : Nat) (k0 : St → B4Light_R) (z : B4Light_t1) : codeK Tryz.prog B4Light_sp n B4Light_c4 B4Light_a7 (B4Light_m1 z) (B4Light_K3 k0) = B4Light_s1 n (fun y => k0 (B4Light_m0 y)) z :=
  Eq.trans (b := rounds (fun r2 st => codeK Tryz.prog B4Light_sp n B4Light_c3 B4Light_a6 st (B4Light_K2 r2 k0)) n (B4Light_m2 (z.1, z.2))) (by kernel_rfl) (rounds_mk B4Light_m2 (fun r2 x' => by
    have := (B4Light_q2 n k0 r2 x')
    exact this) n _)
def B4Light_px (_n : Nat) (k0 : B4Light_t0 → B4Light_R) (k1 : B4Light_t1 → B4Light_R) (x : ((List D_api_Rule) × (Int × Unit))) : B4Light_R :=
  bif (decide ((List.length x.1 : Int) > x.2.1)) then
    some (false, ())
  else
    k1 (x.1, (0 : Int))
def B4Light (n : Nat) (x : ((List D_api_Rule) × (Int × Unit))) : B4Light_R := B4Light_px n (B4Light_s0 n) (B4Light_s1 n (B4Light_s0 n)) x
theorem B4Light_ex (n : Nat) (rc : RC B4Light_R) (x : ((List D_api_Rule) × (Int × Unit))) : codeR rc Tryz.prog B4Light_sp n (bodyOf Tryz.f9) B4Light_an (start B4Light_ps x (Func.ntmps Tryz.f9)) (kFin Tryz.prog B4Light_rs Tryz.f9) = B4Light_px n (fun y => rc B4Light_c0 B4Light_a0 (B4Light_m0 y) (kFin Tryz.prog B4Light_rs Tryz.f9)) (fun y => rc B4Light_c4 B4Light_a7 (B4Light_m1 y) (B4Light_K3 (fun st => rc B4Light_c0 B4Light_a0 st (kFin Tryz.prog B4Light_rs Tryz.f9)))) x := by kernel_rfl
theorem B4Light_qx (n : Nat) (x : ((List D_api_Rule) × (Int × Unit))) : codeK Tryz.prog B4Light_sp n (bodyOf Tryz.f9) B4Light_an (start B4Light_ps x (Func.ntmps Tryz.f9)) (kFin Tryz.prog B4Light_rs Tryz.f9) = B4Light n x := by
  have h0 : (fun y => codeK Tryz.prog B4Light_sp n B4Light_c0 B4Light_a0 (B4Light_m0 y) (kFin Tryz.prog B4Light_rs Tryz.f9)) = (B4Light_s0 n) := funext fun y => by
    have := B4Light_q0 n  y
    exact this
  have h1 : (fun y => codeK Tryz.prog B4Light_sp n B4Light_c4 B4Light_a7 (B4Light_m1 y) (B4Light_K3 (fun st => codeK Tryz.prog B4Light_sp n B4Light_c0 B4Light_a0 st (kFin Tryz.prog B4Light_rs Tryz.f9)))) = (B4Light_s1 n (B4Light_s0 n)) := funext fun y => by
    have := B4Light_q1 n (fun st => codeK Tryz.prog B4Light_sp n B4Light_c0 B4Light_a0 st (kFin Tryz.prog B4Light_rs Tryz.f9)) y
    rw [h0] at this; exact this
  rw [codeK_R, B4Light_ex]
  rw [h0]
  rw [h1]
  rfl
def B4Light_spec : Sp := ⟨B4Light_ps, B4Light_rs, B4Light⟩
theorem B4Light_ok : SoundX Tryz.prog CX 9 (.f B4Light_spec) := sound_of look_nil Tryz.func9 (by kernel_rfl) rfl B4Light_an B4Light_spec rfl rfl B4Light_qx

/-! ### noonmark/noonmarklaw15.Light -/
abbrev B5Light_ps : Ty := (.pair T_A5Zone .unit)
abbrev B5Light_rs : Ty := (.pair .bool .unit)
def B5Light_sp : Specs := look [(9, .f B4Light_spec)]
def B5Light_an : An := (.s .o (.s .o (.k [] [1] 1 (.k [] [1,3] 1 .o (.b (.l [] [1,3] 1 .o))) (.k [] [] 0 (.k [] [1,4] 1 .o (.b (.l [] [1,4] 1 (.s .o (.k [] [1,4] 1 (.b (.s .o (.k [] [1,4,85] 1 .o .o))) .o))))) .o))))
abbrev B5Light_R := Option (Bool × Unit)
noncomputable abbrev B5Light_c0 : Code := (cr (cr (cr (cr (bodyOf Tryz.f4)))))
noncomputable abbrev B5Light_c1 : Code := (cr (cr (cl (cl (cr (cl (cr (cr (cr (bodyOf Tryz.f4))))))))))
noncomputable abbrev B5Light_c2 : Code := (cr (cr (cl (cl (cr (cl (cl (cr (cl (cr (cr (cr (bodyOf Tryz.f4)))))))))))))
noncomputable abbrev B5Light_c3 : Code := (cl (cl (cr (cl (cr (cr (cr (bodyOf Tryz.f4))))))))
noncomputable abbrev B5Light_c4 : Code := (cr (cl (cr (cr (cr (bodyOf Tryz.f4))))))
noncomputable abbrev B5Light_c5 : Code := (cr (cr (cr (bodyOf Tryz.f4))))
noncomputable abbrev B5Light_c6 : Code := (cl (cl (cr (cl (cr (cr (bodyOf Tryz.f4)))))))
noncomputable abbrev B5Light_c7 : Code := (cr (cl (cr (cr (bodyOf Tryz.f4)))))
noncomputable abbrev B5Light_a0 : An := B5Light_an.right.right.right.right
noncomputable abbrev B5Light_a1 : An := B5Light_an.right.right.right.left.right.left.left.right.right
noncomputable abbrev B5Light_a2 : An := B5Light_an.right.right.right
noncomputable abbrev B5Light_a3 : An := B5Light_an.right.right.right.left.right.left
noncomputable abbrev B5Light_a4 : An := B5Light_an.right.right.right.left.right.left.left.right.left.left.right.right
noncomputable abbrev B5Light_a5 : An := B5Light_an.right.right.right.left.right.left.left.right
noncomputable abbrev B5Light_a6 : An := B5Light_an.right.right.right.left.right.left.left
noncomputable abbrev B5Light_a7 : An := B5Light_an.right.right.right.left.right
noncomputable abbrev B5Light_a8 : An := B5Light_an.right.right.left.right.left.left
noncomputable abbrev B5Light_a9 : An := B5Light_an.right.right
noncomputable abbrev B5Light_a10 : An := B5Light_an.right.right.left.right.left
noncomputable abbrev B5Light_a11 : An := B5Light_an.right.right.left.right
noncomputable abbrev B5Light_K0 (r5 k3 : St → B5Light_R) : Ex → St → B5Light_R := (kSeq r5 B5Light_a3 (kBlk 2 (kSeq k3 B5Light_a2 (kFin Tryz.prog B5Light_rs Tryz.f4))))
noncomputable abbrev B5Light_K1 (k6 r5 k3 : St → B5Light_R) : Ex → St → B5Light_R := (kBlk 3 (kSeq k6 B5Light_a5 (kSeq r5 B5Light_a3 (kBlk 2 (kSeq k3 B5Light_a2 (kFin Tryz.prog B5Light_rs Tryz.f4))))))
noncomputable abbrev B5Light_K2 (r5 k3 : St → B5Light_R) : Ex → St → B5Light_R := (kSeq r5 B5Light_a3 (kBlk 2 (kSeq k3 B5Light_a2 (kFin Tryz.prog B5Light_rs Tryz.f4))))
noncomputable abbrev B5Light_K3 (k3 : St → B5Light_R) : Ex → St → B5Light_R := (kSeq k3 B5Light_a2 (kFin Tryz.prog B5Light_rs Tryz.f4))
noncomputable abbrev B5Light_K4 (r2 k0 : St → B5Light_R) : Ex → St → B5Light_R := (kSeq r2 B5Light_a10 (kBlk 0 (kSeq k0 B5Light_a9 (kFin Tryz.prog B5Light_rs Tryz.f4))))
noncomputable abbrev B5Light_K5 (k0 : St → B5Light_R) : Ex → St → B5Light_R := (kSeq k0 B5Light_a9 (kFin Tryz.prog B5Light_rs Tryz.f4))
abbrev B5Light_t0 := D_A5Zone
def B5Light_m0 (z : B5Light_t0) : St := ⟨(.junk :: .v ⟨(.ptr 0 0 T_A5Zone), ()⟩ :: jk 84 []), [some (.one ⟨T_A5Zone, z⟩)]⟩
abbrev B5Light_t1 := Int × D_A5Zone
def B5Light_m1 (z : B5Light_t1) : St := ⟨(.junk :: .v ⟨(.ptr 0 0 T_A5Zone), ()⟩ :: .junk :: .v ⟨(.int .i64), z.1⟩ :: jk 82 []), [some (.one ⟨T_A5Zone, z.2⟩)]⟩
abbrev B5Light_t2 := Int × D_A5Zone
def B5Light_m2 (z : B5Light_t2) : St := ⟨(.junk :: .v ⟨(.ptr 0 0 T_A5Zone), ()⟩ :: .junk :: .v ⟨(.int .i64), z.1⟩ :: jk 82 []), [some (.one ⟨T_A5Zone, z.2⟩)]⟩
abbrev B5Light_t3 := Unit
def B5Light_m3 (_z : B5Light_t3) : St := ⟨(jk 86 []), []⟩
abbrev B5Light_t4 := Int × D_A5Zone
def B5Light_m4 (z : B5Light_t4) : St := ⟨(.junk :: .v ⟨(.ptr 0 0 T_A5Zone), ()⟩ :: .junk :: .junk :: .v ⟨(.int .i64), z.1⟩ :: jk 81 []), [some (.one ⟨T_A5Zone, z.2⟩)]⟩
abbrev B5Light_t5 := Int × D_A5Zone
def B5Light_m5 (z : B5Light_t5) : St := ⟨(.junk :: .v ⟨(.ptr 0 0 T_A5Zone), ()⟩ :: .junk :: .junk :: .v ⟨(.int .i64), z.1⟩ :: jk 81 []), [some (.one ⟨T_A5Zone, z.2⟩)]⟩
abbrev B5Light_t6 := Int × D_A5Zone
def B5Light_m6 (z : B5Light_t6) : St := ⟨(.junk :: .v ⟨(.ptr 0 0 T_A5Zone), ()⟩ :: .junk :: .junk :: .v ⟨(.int .i64), z.1⟩ :: jk 81 []), [some (.one ⟨T_A5Zone, z.2⟩)]⟩
abbrev B5Light_t7 := Int × Bool × D_A5Zone
def B5Light_m7 (z : B5Light_t7) : St := ⟨(.junk :: .v ⟨(.ptr 0 0 T_A5Zone), ()⟩ :: .junk :: .junk :: .v ⟨(.int .i64), z.1⟩ :: jk 80 (.v ⟨.bool, z.2.1⟩ :: [])), [some (.one ⟨T_A5Zone, z.2.2⟩)]⟩
def B5Light_p3 (_n : Nat) (_z : B5Light_t3) : B5Light_R :=
  some (true, ())
def B5Light_s3 (n : Nat) (z : B5Light_t3) : B5Light_R := B5Light_p3 n z
theorem B5Light_e3 (n : Nat) (rc : RC B5Light_R) (z : B5Light_t3) : codeR rc Tryz.prog B5Light_sp n B5Light_c0 B5Light_a0 (B5Light_m3 z) (kFin Tryz.prog B5Light_rs Tryz.f4) = B5Light_p3 n z := by kernel_rfl
theorem B5Light_q3 (n : Nat) (z : B5Light_t3) : codeK Tryz.prog B5Light_sp n B5Light_c0 B5Light_a0 (B5Light_m3 z) (kFin Tryz.prog B5Light_rs Tryz.f4) = B5Light_s3 n z := by
  rw [codeK_R, B5Light_e3]
  rfl
def B5Light_p6 (_n : Nat) (_k3 : B5Light_t3 → B5Light_R) (r5 : B5Light_t5 → B5Light_R) (z : B5Light_t6) : B5Light_R :=
  r5 ((w64 (z.1 + 1)), z.2)
def B5Light_s6 (n : Nat) (k3 : B5Light_t3 → B5Light_R) (r5 : B5Light_t5 → B5Light_R) (z : B5Light_t6) : B5Light_R := B5Light_p6 n k3 r5 z
theorem B5Light_e6 (n : Nat) (k3 : St → B5Light_R) (r5 : St → B5Light_R) (rc : RC B5Light_R) (z : B5Light_t6) : codeR rc Tryz.prog B5Light_sp n B5Light_c1 B5Light_a1 (B5Light_m6 z) (B5Light_K0 r5 k3) = B5Light_p6 n (fun y => k3 (B5Light_m3 y)) (fun y => r5 (B5Light_m5 y)) z := by kernel_rfl
theorem B5Light_q6 (n : Nat) (k3 : St → B5Light_R) (r5 : St → B5Light_R) (z : B5Light_t6) : codeK Tryz.prog B5Light_sp n B5Light_c1 B5Light_a1 (B5Light_m6 z) (B5Light_K0 r5 k3) = B5Light_s6 n (fun y => k3 (B5Light_m3 y)) (fun y => r5 (B5Light_m5 y)) z := by
  rw [codeK_R, B5Light_e6]
  rfl
def B5Light_p7 (_n : Nat) (_k3 : B5Light_t3 → B5Light_R) (_r5 : B5Light_t5 → B5Light_R) (k6 : B5Light_t6 → B5Light_R) (z : B5Light_t7) : B5Light_R :=
  bif z.2.1 then
    some (false, ())
  else
    k6 (z.1, z.2.2)
def B5Light_s7 (n : Nat) (k3 : B5Light_t3 → B5Light_R) (r5 : B5Light_t5 → B5Light_R) (k6 : B5Light_t6 → B5Light_R) (z : B5Light_t7) : B5Light_R := B5Light_p7 n k3 r5 k6 z
theorem B5Light_e7 (n : Nat) (k3 : St → B5Light_R) (r5 : St → B5Light_R) (k6 : St → B5Light_R) (rc : RC B5Light_R) (z : B5Light_t7) : codeR rc Tryz.prog B5Light_sp n B5Light_c2 B5Light_a4 (B5Light_m7 z) (B5Light_K1 k6 r5 k3) = B5Light_p7 n (fun y => k3 (B5Light_m3 y)) (fun y => r5 (B5Light_m5 y)) (fun y => k6 (B5Light_m6 y)) z := by kernel_rfl
theorem B5Light_q7 (n : Nat) (k3 : St → B5Light_R) (r5 : St → B5Light_R) (k6 : St → B5Light_R) (z : B5Light_t7) : codeK Tryz.prog B5Light_sp n B5Light_c2 B5Light_a4 (B5Light_m7 z) (B5Light_K1 k6 r5 k3) = B5Light_s7 n (fun y => k3 (B5Light_m3 y)) (fun y => r5 (B5Light_m5 y)) (fun y => k6 (B5Light_m6 y)) z := by
  rw [codeK_R, B5Light_e7]
  rfl
def B5Light_p5 (_n : Nat) (k3 : B5Light_t3 → B5Light_R) (_r5 : B5Light_t5 → B5Light_R) (k6 : B5Light_t6 → B5Light_R) (k7 : B5Light_t7 → B5Light_R) (z : B5Light_t5) : B5Light_R :=
  bif (decide (z.1 < (List.length z.2.1 : Int))) then
    bif decide (0 ≤ z.1) then
      ((z.2.1[Int.toNat z.1]?)).bind fun e4 =>
      bif (decide (e4.1 < (-100000))) then
        k7 (z.1, true, z.2)
      else
        bif (decide (e4.1 > 100000)) then
          k7 (z.1, true, z.2)
        else
          bif (decide (e4.2.2.1 < (-100000))) then
            k7 (z.1, true, z.2)
          else
            bif (decide (e4.2.2.1 > 100000)) then
              k7 (z.1, true, z.2)
            else
              bif (decide (e4.2.2.2.2.2.1.2.2.2.2.1.1 < (-700000))) then
                k7 (z.1, true, z.2)
              else
                bif (decide (e4.2.2.2.2.2.1.2.2.2.2.1.1 > 700000)) then
                  k7 (z.1, true, z.2)
                else
                  bif (decide ((ByteArray.size e4.2.2.2.1 : Int) > 100)) then
                    k7 (z.1, true, z.2)
                  else
                    k7 (z.1, (decide ((ByteArray.size e4.2.2.2.2.1 : Int) > 100)), z.2)
    else none
  else
    k3 ()
def B5Light_s5 (n : Nat) (k3 : B5Light_t3 → B5Light_R) (r5 : B5Light_t5 → B5Light_R) (z : B5Light_t5) : B5Light_R := B5Light_p5 n k3 r5 (B5Light_s6 n k3 r5) (B5Light_s7 n k3 r5 (B5Light_s6 n k3 r5)) z
theorem B5Light_e5 (n : Nat) (k3 : St → B5Light_R) (r5 : St → B5Light_R) (rc : RC B5Light_R) (z : B5Light_t5) : codeR rc Tryz.prog B5Light_sp n B5Light_c3 B5Light_a6 (B5Light_m5 z) (B5Light_K2 r5 k3) = B5Light_p5 n (fun y => k3 (B5Light_m3 y)) (fun y => r5 (B5Light_m5 y)) (fun y => rc B5Light_c1 B5Light_a1 (B5Light_m6 y) (B5Light_K0 r5 k3)) (fun y => rc B5Light_c2 B5Light_a4 (B5Light_m7 y) (B5Light_K1 (fun st => rc B5Light_c1 B5Light_a1 st (B5Light_K0 r5 k3)) r5 k3)) z := by kernel_rfl
theorem B5Light_q5 (n : Nat) (k3 : St → B5Light_R) (r5 : St → B5Light_R) (z : B5Light_t5) : codeK Tryz.prog B5Light_sp n B5Light_c3 B5Light_a6 (B5Light_m5 z) (B5Light_K2 r5 k3) = B5Light_s5 n (fun y => k3 (B5Light_m3 y)) (fun y => r5 (B5Light_m5 y)) z := by
  have h6 : (fun y => codeK Tryz.prog B5Light_sp n B5Light_c1 B5Light_a1 (B5Light_m6 y) (B5Light_K0 r5 k3)) = (B5Light_s6 n (fun y => k3 (B5Light_m3 y)) (fun y => r5 (B5Light_m5 y))) := funext fun y => by
    have := B5Light_q6 n k3 r5 y
    exact this
  have h7 : (fun y => codeK Tryz.prog B5Light_sp n B5Light_c2 B5Light_a4 (B5Light_m7 y) (B5Light_K1 (fun st => codeK Tryz.prog B5Light_sp n B5Light_c1 B5Light_a1 st (B5Light_K0 r5 k3)) r5 k3)) = (B5Light_s7 n (fun y => k3 (B5Light_m3 y)) (fun y => r5 (B5Light_m5 y)) (B5Light_s6 n (fun y => k3 (B5Light_m3 y)) (fun y => r5 (B5Light_m5 y)))) := funext fun y => by
    have := B5Light_q7 n k3 r5 (fun st => codeK Tryz.prog B5Light_sp n B5Light_c1 B5Light_a1 st (B5Light_K0 r5 k3)) y
    rw [h6] at this; exact this
  rw [codeK_R, B5Light_e5]
  rw [h6]
  rw [h7]
  rfl
def B5Light_s4 (n : Nat) (k3 : B5Light_t3 → B5Light_R) (z : B5Light_t4) : B5Light_R :=
  rounds (fun r5 x' => B5Light_s5 n k3 r5 x') n (z.1, z.2)
theorem B5Light_q4 (n : Nat) (k3 : St → B5Light_R) (z : B5Light_t4) : codeK Tryz.prog B5Light_sp n B5Light_c4 B5Light_a7 (B5Light_m4 z) (B5Light_K3 k3) = B5Light_s4 n (fun y => k3 (B5Light_m3 y)) z :=
  Eq.trans (b := rounds (fun r5 st => codeK Tryz.prog B5Light_sp n B5Light_c3 B5Light_a6 st (B5Light_K2 r5 k3)) n (B5Light_m5 (z.1, z.2))) (by kernel_rfl) (rounds_mk B5Light_m5 (fun r5 x' => by
    have := (B5Light_q5 n k3 r5 x')
    exact this) n _)
def B5Light_p0 (_n : Nat) (k3 : B5Light_t3 → B5Light_R) (k4 : B5Light_t4 → B5Light_R) (z : B5Light_t0) : B5Light_R :=
  k4 ((0 : Int), z)
def B5Light_s0 (n : Nat) (z : B5Light_t0) : B5Light_R := B5Light_p0 n (B5Light_s3 n) (B5Light_s4 n (B5Light_s3 n)) z
theorem B5Light_e0 (n : Nat) (rc : RC B5Light_R) (z : B5Light_t0) : codeR rc Tryz.prog B5Light_sp n B5Light_c5 B5Light_a2 (B5Light_m0 z) (kFin Tryz.prog B5Light_rs Tryz.f4) = B5Light_p0 n (fun y => rc B5Light_c0 B5Light_a0 (B5Light_m3 y) (kFin Tryz.prog B5Light_rs Tryz.f4)) (fun y => rc B5Light_c4 B5Light_a7 (B5Light_m4 y) (B5Light_K3 (fun st => rc B5Light_c0 B5Light_a0 st (kFin Tryz.prog B5Light_rs Tryz.f4)))) z := by kernel_rfl
theorem B5Light_q0 (n : Nat) (z : B5Light_t0) : codeK Tryz.prog B5Light_sp n B5Light_c5 B5Light_a2 (B5Light_m0 z) (kFin Tryz.prog B5Light_rs Tryz.f4) = B5Light_s0 n z := by
  have h3 : (fun y => codeK Tryz.prog B5Light_sp n B5Light_c0 B5Light_a0 (B5Light_m3 y) (kFin Tryz.prog B5Light_rs Tryz.f4)) = (B5Light_s3 n) := funext fun y => by
    have := B5Light_q3 n  y
    exact this
  have h4 : (fun y => codeK Tryz.prog B5Light_sp n B5Light_c4 B5Light_a7 (B5Light_m4 y) (B5Light_K3 (fun st => codeK Tryz.prog B5Light_sp n B5Light_c0 B5Light_a0 st (kFin Tryz.prog B5Light_rs Tryz.f4)))) = (B5Light_s4 n (B5Light_s3 n)) := funext fun y => by
    have := B5Light_q4 n (fun st => codeK Tryz.prog B5Light_sp n B5Light_c0 B5Light_a0 st (kFin Tryz.prog B5Light_rs Tryz.f4)) y
    rw [h3] at this; exact this
  rw [codeK_R, B5Light_e0]
  rw [h3]
  rw [h4]
  rfl
def B5Light_p2 (n : Nat) (k0 : B5Light_t0 → B5Light_R) (r2 : B5Light_t2 → B5Light_R) (z : B5Light_t2) : B5Light_R :=
  bif (decide (z.1 < (List.length z.2.2.1 : Int))) then
    bif decide (0 ≤ z.1) then
      ((z.2.2.1[Int.toNat z.1]?)).bind fun e1 =>
      ((B4Light n (e1, ((6 : Int), ())))).bind fun v2 =>
      bif (!v2.1) then
        some (false, ())
      else
        r2 ((w64 (z.1 + 1)), z.2)
    else none
  else
    k0 z.2
def B5Light_s2 (n : Nat) (k0 : B5Light_t0 → B5Light_R) (r2 : B5Light_t2 → B5Light_R) (z : B5Light_t2) : B5Light_R := B5Light_p2 n k0 r2 z
theorem B5Light_e2 (n : Nat) (k0 : St → B5Light_R) (r2 : St → B5Light_R) (rc : RC B5Light_R) (z : B5Light_t2) : codeR rc Tryz.prog B5Light_sp n B5Light_c6 B5Light_a8 (B5Light_m2 z) (B5Light_K4 r2 k0) = B5Light_p2 n (fun y => k0 (B5Light_m0 y)) (fun y => r2 (B5Light_m2 y)) z := by kernel_rfl
theorem B5Light_q2 (n : Nat) (k0 : St → B5Light_R) (r2 : St → B5Light_R) (z : B5Light_t2) : codeK Tryz.prog B5Light_sp n B5Light_c6 B5Light_a8 (B5Light_m2 z) (B5Light_K4 r2 k0) = B5Light_s2 n (fun y => k0 (B5Light_m0 y)) (fun y => r2 (B5Light_m2 y)) z := by
  rw [codeK_R, B5Light_e2]
  rfl
def B5Light_s1 (n : Nat) (k0 : B5Light_t0 → B5Light_R) (z : B5Light_t1) : B5Light_R :=
  rounds (fun r2 x' => B5Light_s2 n k0 r2 x') n (z.1, z.2)
theorem B5Light_q1 (n : Nat) (k0 : St → B5Light_R) (z : B5Light_t1) : codeK Tryz.prog B5Light_sp n B5Light_c7 B5Light_a11 (B5Light_m1 z) (B5Light_K5 k0) = B5Light_s1 n (fun y => k0 (B5Light_m0 y)) z :=
  Eq.trans (b := rounds (fun r2 st => codeK Tryz.prog B5Light_sp n B5Light_c6 B5Light_a8 st (B5Light_K4 r2 k0)) n (B5Light_m2 (z.1, z.2))) (by kernel_rfl) (rounds_mk B5Light_m2 (fun r2 x' => by
    have := (B5Light_q2 n k0 r2 x')
    exact this) n _)
def B5Light_px (_n : Nat) (k0 : B5Light_t0 → B5Light_R) (k1 : B5Light_t1 → B5Light_R) (x : (D_A5Zone × Unit)) : B5Light_R :=
  bif (decide ((List.length x.1.1 : Int) > 10)) then
    some (false, ())
  else
    bif (decide ((List.length x.1.2.1 : Int) > 10)) then
      some (false, ())
    else
      k1 ((0 : Int), x.1)
def B5Light (n : Nat) (x : (D_A5Zone × Unit)) : B5Light_R := B5Light_px n (B5Light_s0 n) (B5Light_s1 n (B5Light_s0 n)) x
theorem B5Light_ex (n : Nat) (rc : RC B5Light_R) (x : (D_A5Zone × Unit)) : codeR rc Tryz.prog B5Light_sp n (bodyOf Tryz.f4) B5Light_an (start B5Light_ps x (Func.ntmps Tryz.f4)) (kFin Tryz.prog B5Light_rs Tryz.f4) = B5Light_px n (fun y => rc B5Light_c5 B5Light_a2 (B5Light_m0 y) (kFin Tryz.prog B5Light_rs Tryz.f4)) (fun y => rc B5Light_c7 B5Light_a11 (B5Light_m1 y) (B5Light_K5 (fun st => rc B5Light_c5 B5Light_a2 st (kFin Tryz.prog B5Light_rs Tryz.f4)))) x := by kernel_rfl
theorem B5Light_qx (n : Nat) (x : (D_A5Zone × Unit)) : codeK Tryz.prog B5Light_sp n (bodyOf Tryz.f4) B5Light_an (start B5Light_ps x (Func.ntmps Tryz.f4)) (kFin Tryz.prog B5Light_rs Tryz.f4) = B5Light n x := by
  have h0 : (fun y => codeK Tryz.prog B5Light_sp n B5Light_c5 B5Light_a2 (B5Light_m0 y) (kFin Tryz.prog B5Light_rs Tryz.f4)) = (B5Light_s0 n) := funext fun y => by
    have := B5Light_q0 n  y
    exact this
  have h1 : (fun y => codeK Tryz.prog B5Light_sp n B5Light_c7 B5Light_a11 (B5Light_m1 y) (B5Light_K5 (fun st => codeK Tryz.prog B5Light_sp n B5Light_c5 B5Light_a2 st (kFin Tryz.prog B5Light_rs Tryz.f4)))) = (B5Light_s1 n (B5Light_s0 n)) := funext fun y => by
    have := B5Light_q1 n (fun st => codeK Tryz.prog B5Light_sp n B5Light_c5 B5Light_a2 st (kFin Tryz.prog B5Light_rs Tryz.f4)) y
    rw [h0] at this; exact this
  rw [codeK_R, B5Light_ex]
  rw [h0]
  rw [h1]
  rfl
def B5Light_spec : Sp := ⟨B5Light_ps, B5Light_rs, B5Light⟩
theorem B5Light_ok : SoundX Tryz.prog CX 4 (.f B5Light_spec) := sound_of (look_cons B4Light_ok look_nil) Tryz.func4 (by kernel_rfl) rfl B5Light_an B5Light_spec rfl rfl B5Light_qx

/-! ### noonmark/civil.Clock -/
abbrev CvClock_ps : Ty := (.pair (.int .i64) .unit)
abbrev CvClock_rs : Ty := T_api_At
def CvClock_sp : Specs := look []
def CvClock_an : An := (.s .o (.s .o (.k [] [0,2] 0 .o .o)))
abbrev CvClock_R := Option D_api_At
noncomputable abbrev CvClock_c0 : Code := (cr (cr (cr (bodyOf Tryz.f38))))
noncomputable abbrev CvClock_a0 : An := CvClock_an.right.right.right
abbrev CvClock_t0 := Int × Int
def CvClock_m0 (z : CvClock_t0) : St := ⟨(.v ⟨(.int .i64), z.1⟩ :: .junk :: .v ⟨(.int .i64), z.2⟩ :: jk 13 []), []⟩
def CvClock_p0 (_n : Nat) (z : CvClock_t0) : CvClock_R :=
  some (z.2, ((w64 (z.1 - (w64 (z.2 * 86400)))), ()))
def CvClock_s0 (n : Nat) (z : CvClock_t0) : CvClock_R := CvClock_p0 n z
theorem CvClock_e0 (n : Nat) (rc : RC CvClock_R) (z : CvClock_t0) : codeR rc Tryz.prog CvClock_sp n CvClock_c0 CvClock_a0 (CvClock_m0 z) (kFin Tryz.prog CvClock_rs Tryz.f38) = CvClock_p0 n z := by kernel_rfl
theorem CvClock_q0 (n : Nat) (z : CvClock_t0) : codeK Tryz.prog CvClock_sp n CvClock_c0 CvClock_a0 (CvClock_m0 z) (kFin Tryz.prog CvClock_rs Tryz.f38) = CvClock_s0 n z := by
  rw [codeK_R, CvClock_e0]
  rfl
def CvClock_px (_n : Nat) (k0 : CvClock_t0 → CvClock_R) (x : (Int × Unit)) : CvClock_R :=
  let t1 := w64 (Int.tdiv x.1 (86400 : Int))
  bif (decide ((Int.tmod x.1 (86400 : Int)) < 0)) then
    k0 (x.1, (w64 (t1 - 1)))
  else
    k0 (x.1, t1)
def CvClock (n : Nat) (x : (Int × Unit)) : CvClock_R := CvClock_px n (CvClock_s0 n) x
theorem CvClock_ex (n : Nat) (rc : RC CvClock_R) (x : (Int × Unit)) : codeR rc Tryz.prog CvClock_sp n (bodyOf Tryz.f38) CvClock_an (start CvClock_ps x (Func.ntmps Tryz.f38)) (kFin Tryz.prog CvClock_rs Tryz.f38) = CvClock_px n (fun y => rc CvClock_c0 CvClock_a0 (CvClock_m0 y) (kFin Tryz.prog CvClock_rs Tryz.f38)) x := by kernel_rfl
theorem CvClock_qx (n : Nat) (x : (Int × Unit)) : codeK Tryz.prog CvClock_sp n (bodyOf Tryz.f38) CvClock_an (start CvClock_ps x (Func.ntmps Tryz.f38)) (kFin Tryz.prog CvClock_rs Tryz.f38) = CvClock n x := by
  have h0 : (fun y => codeK Tryz.prog CvClock_sp n CvClock_c0 CvClock_a0 (CvClock_m0 y) (kFin Tryz.prog CvClock_rs Tryz.f38)) = (CvClock_s0 n) := funext fun y => by
    have := CvClock_q0 n  y
    exact this
  rw [codeK_R, CvClock_ex]
  rw [h0]
  rfl
def CvClock_spec : Sp := ⟨CvClock_ps, CvClock_rs, CvClock⟩
theorem CvClock_ok : SoundX Tryz.prog CX 38 (.f CvClock_spec) := sound_of look_nil Tryz.func38 (by kernel_rfl) rfl CvClock_an CvClock_spec rfl rfl CvClock_qx

/-! ### noonmark/civil.Date -/
abbrev CvDate_ps : Ty := (.pair (.int .i64) .unit)
abbrev CvDate_rs : Ty := T_EFire
def CvDate_sp : Specs := look [(60, .f Cvnumber_spec)]
def CvDate_an : An := (.s .o (.s .o (.s .o (.s .o (.s .o (.s .o (.s .o (.s .o (.s .o (.s .o (.k [] [2,3,4] 0 .o .o)))))))))))
abbrev CvDate_R := Option D_EFire
noncomputable abbrev CvDate_c0 : Code := (cr (cr (cr (cr (cr (cr (cr (cr (cr (cr (cr (bodyOf Tryz.f39))))))))))))
noncomputable abbrev CvDate_a0 : An := CvDate_an.right.right.right.right.right.right.right.right.right.right.right
abbrev CvDate_t0 := Int × Int × Int
def CvDate_m0 (z : CvDate_t0) : St := ⟨(.junk :: .junk :: .v ⟨(.int .i64), z.1⟩ :: .v ⟨(.int .i64), z.2.1⟩ :: .v ⟨(.int .i64), z.2.2⟩ :: jk 71 []), []⟩
def CvDate_p0 (_n : Nat) (z : CvDate_t0) : CvDate_R :=
  some (z.1, (z.2.1, (z.2.2, ((0 : Int), ()))))
def CvDate_s0 (n : Nat) (z : CvDate_t0) : CvDate_R := CvDate_p0 n z
theorem CvDate_e0 (n : Nat) (rc : RC CvDate_R) (z : CvDate_t0) : codeR rc Tryz.prog CvDate_sp n CvDate_c0 CvDate_a0 (CvDate_m0 z) (kFin Tryz.prog CvDate_rs Tryz.f39) = CvDate_p0 n z := by kernel_rfl
theorem CvDate_q0 (n : Nat) (z : CvDate_t0) : codeK Tryz.prog CvDate_sp n CvDate_c0 CvDate_a0 (CvDate_m0 z) (kFin Tryz.prog CvDate_rs Tryz.f39) = CvDate_s0 n z := by
  rw [codeK_R, CvDate_e0]
  rfl
def CvDate_px (n : Nat) (k0 : CvDate_t0 → CvDate_R) (x : (Int × Unit)) : CvDate_R :=
  ((Cvnumber n ((-9999 : Int), ((1 : Int), ((1 : Int), ()))))).bind fun v1 =>
  bif (decide (x.1 < v1.1)) then
    some ((0 : Int), ((0 : Int), ((0 : Int), ((2 : Int), ()))))
  else
    ((Cvnumber n ((9999 : Int), ((12 : Int), ((31 : Int), ()))))).bind fun v2 =>
    bif (decide (x.1 > v2.1)) then
      some ((0 : Int), ((0 : Int), ((0 : Int), ((2 : Int), ()))))
    else
      let t3 := w64 (x.1 + 5102378)
      let t4 := w64 (Int.tdiv t3 (146097 : Int))
      let t6 := w64 (t3 - (w64 (t4 * 146097)))
      let t13 := w64 (Int.tdiv (w64 ((w64 ((w64 (t6 - (w64 (Int.tdiv t6 (1460 : Int))))) + (w64 (Int.tdiv t6 (36524 : Int))))) - (w64 (Int.tdiv t6 (146096 : Int))))) (365 : Int))
      let t19 := w64 (t6 - (w64 ((w64 ((w64 (365 * t13)) + (w64 (Int.tdiv t13 (4 : Int))))) - (w64 (Int.tdiv t13 (100 : Int))))))
      let t22 := w64 (Int.tdiv (w64 ((w64 (5 * t19)) + 2)) (153 : Int))
      let t27 := w64 ((w64 (t19 - (w64 (Int.tdiv (w64 ((w64 (153 * t22)) + 2)) (5 : Int))))) + 1)
      let t30 := w64 ((w64 (t13 + (w64 (t4 * 400)))) - 12000)
      let t31 := w64 (t22 + 3)
      bif (decide (t31 > 12)) then
        k0 ((w64 (t30 + 1)), (w64 (t31 - 12)), t27)
      else
        k0 (t30, t31, t27)
def CvDate (n : Nat) (x : (Int × Unit)) : CvDate_R := CvDate_px n (CvDate_s0 n) x
theorem CvDate_ex (n : Nat) (rc : RC CvDate_R) (x : (Int × Unit)) : codeR rc Tryz.prog CvDate_sp n (bodyOf Tryz.f39) CvDate_an (start CvDate_ps x (Func.ntmps Tryz.f39)) (kFin Tryz.prog CvDate_rs Tryz.f39) = CvDate_px n (fun y => rc CvDate_c0 CvDate_a0 (CvDate_m0 y) (kFin Tryz.prog CvDate_rs Tryz.f39)) x := by kernel_rfl
theorem CvDate_qx (n : Nat) (x : (Int × Unit)) : codeK Tryz.prog CvDate_sp n (bodyOf Tryz.f39) CvDate_an (start CvDate_ps x (Func.ntmps Tryz.f39)) (kFin Tryz.prog CvDate_rs Tryz.f39) = CvDate n x := by
  have h0 : (fun y => codeK Tryz.prog CvDate_sp n CvDate_c0 CvDate_a0 (CvDate_m0 y) (kFin Tryz.prog CvDate_rs Tryz.f39)) = (CvDate_s0 n) := funext fun y => by
    have := CvDate_q0 n  y
    exact this
  rw [codeK_R, CvDate_ex]
  rw [h0]
  rfl
def CvDate_spec : Sp := ⟨CvDate_ps, CvDate_rs, CvDate⟩
theorem CvDate_ok : SoundX Tryz.prog CX 39 (.f CvDate_spec) := sound_of (look_cons Cvnumber_ok look_nil) Tryz.func39 (by kernel_rfl) rfl CvDate_an CvDate_spec rfl rfl CvDate_qx

/-! ### noonmark/den.year -/
abbrev Deyear_ps : Ty := (.pair (.int .i64) .unit)
abbrev Deyear_rs : Ty := (.pair (.int .i64) (.pair .bool .unit))
def Deyear_sp : Specs := look [(38, .f CvClock_spec), (39, .f CvDate_spec)]
def Deyear_an : An := .o
abbrev Deyear_R := Option (Int × (Bool × Unit))

def Deyear_px (n : Nat) (x : (Int × Unit)) : Deyear_R :=
  ((CvClock n (x.1, ()))).bind fun v1 =>
  ((CvDate n (v1.1, ()))).bind fun v2 =>
  bif (v2.2.2.2.1 == 0) then
    some (v2.1, ((decide ((imax v2.1 (w64 (0 - v2.1))) ≤ 9998)), ()))
  else
    some (v2.1, (false, ()))
def Deyear (n : Nat) (x : (Int × Unit)) : Deyear_R := Deyear_px n x
theorem Deyear_ex (n : Nat) (rc : RC Deyear_R) (x : (Int × Unit)) : codeR rc Tryz.prog Deyear_sp n (bodyOf Tryz.f21) Deyear_an (start Deyear_ps x (Func.ntmps Tryz.f21)) (kFin Tryz.prog Deyear_rs Tryz.f21) = Deyear_px n x := by kernel_rfl
theorem Deyear_qx (n : Nat) (x : (Int × Unit)) : codeK Tryz.prog Deyear_sp n (bodyOf Tryz.f21) Deyear_an (start Deyear_ps x (Func.ntmps Tryz.f21)) (kFin Tryz.prog Deyear_rs Tryz.f21) = Deyear n x := by
  rw [codeK_R, Deyear_ex]
  rfl
def Deyear_spec : Sp := ⟨Deyear_ps, Deyear_rs, Deyear⟩
theorem Deyear_ok : SoundX Tryz.prog CX 21 (.f Deyear_spec) := sound_of (look_cons CvClock_ok (look_cons CvDate_ok look_nil)) Tryz.func21 (by kernel_rfl) rfl Deyear_an Deyear_spec rfl rfl Deyear_qx

/-! ### noonmark/den.Saving -/
abbrev DeSaving_ps : Ty := (.pair (.list T_api_Rule) T_api_At)
abbrev DeSaving_rs : Ty := (.pair (.int .i64) (.pair .str .unit))
def DeSaving_sp : Specs := look [(21, .f Deyear_spec), (62, .f ELetter_spec), (63, .f ESpan_spec), (64, .o EFrom_spec), (65, .f EInstant_spec)]
def DeSaving_an : An := (.s .o (.s .o (.s .o (.s .o (.s .o (.k [] [0,1,2,10,13] 0 .o (.k [] [0] 0 (.k [] [0,1,2,10,14] 0 .o (.b (.l [] [0,1,2,10,14] 0 (.s .o (.k [] [0,1,2,10,14] 0 (.b (.s .o (.k [] [0,1,2,10,14,15,16] 1 .o (.b (.l [] [0,1,2,10,14,15,16] 1 .o))))) .o))))) .o)))))))
abbrev DeSaving_R := Option (Int × (ByteArray × Unit))
noncomputable abbrev DeSaving_c0 : Code := (cr (cr (cr (cr (cr (cr (cr (bodyOf Tryz.f41))))))))
noncomputable abbrev DeSaving_c1 : Code := (cr (cr (cl (cl (cr (cl (cr (cr (cr (cr (cr (cr (bodyOf Tryz.f41)))))))))))))
noncomputable abbrev DeSaving_c2 : Code := (cl (cl (cr (cr (cl (cl (cr (cl (cl (cr (cl (cr (cr (cr (cr (cr (cr (bodyOf Tryz.f41))))))))))))))))))
noncomputable abbrev DeSaving_c3 : Code := (cr (cr (cl (cl (cr (cl (cl (cr (cl (cr (cr (cr (cr (cr (cr (bodyOf Tryz.f41))))))))))))))))
noncomputable abbrev DeSaving_c4 : Code := (cl (cl (cr (cl (cr (cr (cr (cr (cr (cr (bodyOf Tryz.f41)))))))))))
noncomputable abbrev DeSaving_c5 : Code := (cr (cl (cr (cr (cr (cr (cr (cr (bodyOf Tryz.f41)))))))))
noncomputable abbrev DeSaving_c6 : Code := (cr (cr (cr (cr (cr (cr (bodyOf Tryz.f41)))))))
noncomputable abbrev DeSaving_a0 : An := DeSaving_an.right.right.right.right.right.right.right
noncomputable abbrev DeSaving_a1 : An := DeSaving_an.right.right.right.right.right.right.left.right.left.left.right.right
noncomputable abbrev DeSaving_a2 : An := DeSaving_an.right.right.right.right.right.right
noncomputable abbrev DeSaving_a3 : An := DeSaving_an.right.right.right.right.right.right.left.right.left
noncomputable abbrev DeSaving_a4 : An := DeSaving_an.right.right.right.right.right.right.left.right.left.left.right.left.left.right.right.left.left
noncomputable abbrev DeSaving_a5 : An := DeSaving_an.right.right.right.right.right.right.left.right.left.left.right
noncomputable abbrev DeSaving_a6 : An := DeSaving_an.right.right.right.right.right.right.left.right.left.left.right.left.left.right.right.left
noncomputable abbrev DeSaving_a7 : An := DeSaving_an.right.right.right.right.right.right.left.right.left.left.right.left.left.right.right
noncomputable abbrev DeSaving_a8 : An := DeSaving_an.right.right.right.right.right.right.left.right.left.left
noncomputable abbrev DeSaving_a9 : An := DeSaving_an.right.right.right.right.right.right.left.right
noncomputable abbrev DeSaving_K0 (r3 k1 : St → DeSaving_R) : Ex → St → DeSaving_R := (kSeq r3 DeSaving_a3 (kBlk 0 (kSeq k1 DeSaving_a2 (kFin Tryz.prog DeSaving_rs Tryz.f41))))
noncomputable abbrev DeSaving_K1 (r6 k4 r3 k1 : St → DeSaving_R) : Ex → St → DeSaving_R := (kSeq r6 DeSaving_a6 (kBlk 2 (kBlk 1 (kSeq k4 DeSaving_a5 (kSeq r3 DeSaving_a3 (kBlk 0 (kSeq k1 DeSaving_a2 (kFin Tryz.prog DeSaving_rs Tryz.f41))))))))
noncomputable abbrev DeSaving_K2 (k4 r3 k1 : St → DeSaving_R) : Ex → St → DeSaving_R := (kBlk 1 (kSeq k4 DeSaving_a5 (kSeq r3 DeSaving_a3 (kBlk 0 (kSeq k1 DeSaving_a2 (kFin Tryz.prog DeSaving_rs Tryz.f41))))))
noncomputable abbrev DeSaving_K3 (r3 k1 : St → DeSaving_R) : Ex → St → DeSaving_R := (kSeq r3 DeSaving_a3 (kBlk 0 (kSeq k1 DeSaving_a2 (kFin Tryz.prog DeSaving_rs Tryz.f41))))
noncomputable abbrev DeSaving_K4 (k1 : St → DeSaving_R) : Ex → St → DeSaving_R := (kSeq k1 DeSaving_a2 (kFin Tryz.prog DeSaving_rs Tryz.f41))
abbrev DeSaving_t0 := (List D_api_Rule) × Int × Int × Int × Int
def DeSaving_m0 (z : DeSaving_t0) : St := ⟨(.v ⟨(.list T_api_Rule), z.1⟩ :: .v ⟨(.int .i64), z.2.1⟩ :: .v ⟨(.int .i64), z.2.2.1⟩ :: jk 7 (.v ⟨(.int .i64), z.2.2.2.1⟩ :: .junk :: .junk :: .v ⟨(.int .i64), z.2.2.2.2⟩ :: jk 73 [])), []⟩
abbrev DeSaving_t1 := (List D_api_Rule)
def DeSaving_m1 (z : DeSaving_t1) : St := ⟨(.v ⟨(.list T_api_Rule), z⟩ :: jk 86 []), []⟩
abbrev DeSaving_t2 := (List D_api_Rule) × Int × Int × Int × Int
def DeSaving_m2 (z : DeSaving_t2) : St := ⟨(.v ⟨(.list T_api_Rule), z.1⟩ :: .v ⟨(.int .i64), z.2.1⟩ :: .v ⟨(.int .i64), z.2.2.1⟩ :: jk 7 (.v ⟨(.int .i64), z.2.2.2.1⟩ :: jk 3 (.v ⟨(.int .i64), z.2.2.2.2⟩ :: jk 72 []))), []⟩
abbrev DeSaving_t3 := (List D_api_Rule) × Int × Int × Int × Int
def DeSaving_m3 (z : DeSaving_t3) : St := ⟨(.v ⟨(.list T_api_Rule), z.1⟩ :: .v ⟨(.int .i64), z.2.1⟩ :: .v ⟨(.int .i64), z.2.2.1⟩ :: jk 7 (.v ⟨(.int .i64), z.2.2.2.1⟩ :: jk 3 (.v ⟨(.int .i64), z.2.2.2.2⟩ :: jk 72 []))), []⟩
abbrev DeSaving_t4 := (List D_api_Rule) × Int × Int × Int × Int
def DeSaving_m4 (z : DeSaving_t4) : St := ⟨(.v ⟨(.list T_api_Rule), z.1⟩ :: .v ⟨(.int .i64), z.2.1⟩ :: .v ⟨(.int .i64), z.2.2.1⟩ :: jk 7 (.v ⟨(.int .i64), z.2.2.2.1⟩ :: jk 3 (.v ⟨(.int .i64), z.2.2.2.2⟩ :: jk 72 []))), []⟩
abbrev DeSaving_t5 := (List D_api_Rule) × Int × Int × Int × Int × Int × (List D_EFire)
def DeSaving_m5 (z : DeSaving_t5) : St := ⟨(.v ⟨(.list T_api_Rule), z.1⟩ :: .v ⟨(.int .i64), z.2.1⟩ :: .v ⟨(.int .i64), z.2.2.1⟩ :: jk 7 (.v ⟨(.int .i64), z.2.2.2.1⟩ :: jk 3 (.v ⟨(.int .i64), z.2.2.2.2.1⟩ :: .v ⟨(.sl 0 T_EFire), ()⟩ :: .v ⟨(.int .i64), z.2.2.2.2.2.1⟩ :: jk 70 []))), [some (.arr 115 T_EFire z.2.2.2.2.2.2)]⟩
abbrev DeSaving_t6 := (List D_api_Rule) × Int × Int × Int × Int × Int × (List D_EFire)
def DeSaving_m6 (z : DeSaving_t6) : St := ⟨(.v ⟨(.list T_api_Rule), z.1⟩ :: .v ⟨(.int .i64), z.2.1⟩ :: .v ⟨(.int .i64), z.2.2.1⟩ :: jk 7 (.v ⟨(.int .i64), z.2.2.2.1⟩ :: jk 3 (.v ⟨(.int .i64), z.2.2.2.2.1⟩ :: .v ⟨(.sl 0 T_EFire), ()⟩ :: .v ⟨(.int .i64), z.2.2.2.2.2.1⟩ :: jk 70 []))), [some (.arr 115 T_EFire z.2.2.2.2.2.2)]⟩
def DeSaving_p1 (n : Nat) (z : DeSaving_t1) : DeSaving_R :=
  ((ELetter n (z, ()))).bind fun v11 =>
  some ((0 : Int), (v11.1, ()))
def DeSaving_s1 (n : Nat) (z : DeSaving_t1) : DeSaving_R := DeSaving_p1 n z
theorem DeSaving_e1 (n : Nat) (rc : RC DeSaving_R) (z : DeSaving_t1) : codeR rc Tryz.prog DeSaving_sp n DeSaving_c0 DeSaving_a0 (DeSaving_m1 z) (kFin Tryz.prog DeSaving_rs Tryz.f41) = DeSaving_p1 n z := by kernel_rfl
theorem DeSaving_q1 (n : Nat) (z : DeSaving_t1) : codeK Tryz.prog DeSaving_sp n DeSaving_c0 DeSaving_a0 (DeSaving_m1 z) (kFin Tryz.prog DeSaving_rs Tryz.f41) = DeSaving_s1 n z := by
  rw [codeK_R, DeSaving_e1]
  rfl
def DeSaving_p4 (_n : Nat) (_k1 : DeSaving_t1 → DeSaving_R) (r3 : DeSaving_t3 → DeSaving_R) (z : DeSaving_t4) : DeSaving_R :=
  r3 (z.1, z.2.1, z.2.2.1, z.2.2.2.1, (w64 (z.2.2.2.2 - 8)))
def DeSaving_s4 (n : Nat) (k1 : DeSaving_t1 → DeSaving_R) (r3 : DeSaving_t3 → DeSaving_R) (z : DeSaving_t4) : DeSaving_R := DeSaving_p4 n k1 r3 z
theorem DeSaving_e4 (n : Nat) (k1 : St → DeSaving_R) (r3 : St → DeSaving_R) (rc : RC DeSaving_R) (z : DeSaving_t4) : codeR rc Tryz.prog DeSaving_sp n DeSaving_c1 DeSaving_a1 (DeSaving_m4 z) (DeSaving_K0 r3 k1) = DeSaving_p4 n (fun y => k1 (DeSaving_m1 y)) (fun y => r3 (DeSaving_m3 y)) z := by kernel_rfl
theorem DeSaving_q4 (n : Nat) (k1 : St → DeSaving_R) (r3 : St → DeSaving_R) (z : DeSaving_t4) : codeK Tryz.prog DeSaving_sp n DeSaving_c1 DeSaving_a1 (DeSaving_m4 z) (DeSaving_K0 r3 k1) = DeSaving_s4 n (fun y => k1 (DeSaving_m1 y)) (fun y => r3 (DeSaving_m3 y)) z := by
  rw [codeK_R, DeSaving_e4]
  rfl
def DeSaving_p6 (n : Nat) (_k1 : DeSaving_t1 → DeSaving_R) (_r3 : DeSaving_t3 → DeSaving_R) (k4 : DeSaving_t4 → DeSaving_R) (r6 : DeSaving_t6 → DeSaving_R) (z : DeSaving_t6) : DeSaving_R :=
  bif (decide (z.2.2.2.2.2.1 ≥ 0)) then
    bif decide (0 ≤ z.2.2.2.2.2.1 ∧ z.2.2.2.2.2.1 < (List.length z.2.2.2.2.2.2 : Int)) then
      ((z.2.2.2.2.2.2[(Int.toNat z.2.2.2.2.2.1)]?)).bind fun e13 =>
      ((EInstant n (z.1, (e13, (z.2.1, ()))))).bind fun v14 =>
      bif (decide (v14.1 ≤ z.2.2.1)) then
        bif decide (0 ≤ z.2.2.2.2.2.1 ∧ z.2.2.2.2.2.1 < (List.length z.2.2.2.2.2.2 : Int)) then
          ((z.2.2.2.2.2.2[(Int.toNat z.2.2.2.2.2.1)]?)).bind fun e16 =>
          bif decide (0 ≤ e16.1) then
            ((z.1[Int.toNat e16.1]?)).bind fun e17 =>
            some (e17.2.2.2.2.2.2.1, (e17.2.2.2.2.2.2.2.1, ()))
          else none
        else none
      else
        r6 (z.1, z.2.1, z.2.2.1, z.2.2.2.1, z.2.2.2.2.1, (w64 (z.2.2.2.2.2.1 - 1)), z.2.2.2.2.2.2)
    else none
  else
    k4 (z.1, z.2.1, z.2.2.1, z.2.2.2.1, z.2.2.2.2.1)
def DeSaving_s6 (n : Nat) (k1 : DeSaving_t1 → DeSaving_R) (r3 : DeSaving_t3 → DeSaving_R) (k4 : DeSaving_t4 → DeSaving_R) (r6 : DeSaving_t6 → DeSaving_R) (z : DeSaving_t6) : DeSaving_R := DeSaving_p6 n k1 r3 k4 r6 z
theorem DeSaving_e6 (n : Nat) (k1 : St → DeSaving_R) (r3 : St → DeSaving_R) (k4 : St → DeSaving_R) (r6 : St → DeSaving_R) (rc : RC DeSaving_R) (z : DeSaving_t6) : codeR rc Tryz.prog DeSaving_sp n DeSaving_c2 DeSaving_a4 (DeSaving_m6 z) (DeSaving_K1 r6 k4 r3 k1) = DeSaving_p6 n (fun y => k1 (DeSaving_m1 y)) (fun y => r3 (DeSaving_m3 y)) (fun y => k4 (DeSaving_m4 y)) (fun y => r6 (DeSaving_m6 y)) z := by kernel_rfl
theorem DeSaving_q6 (n : Nat) (k1 : St → DeSaving_R) (r3 : St → DeSaving_R) (k4 : St → DeSaving_R) (r6 : St → DeSaving_R) (z : DeSaving_t6) : codeK Tryz.prog DeSaving_sp n DeSaving_c2 DeSaving_a4 (DeSaving_m6 z) (DeSaving_K1 r6 k4 r3 k1) = DeSaving_s6 n (fun y => k1 (DeSaving_m1 y)) (fun y => r3 (DeSaving_m3 y)) (fun y => k4 (DeSaving_m4 y)) (fun y => r6 (DeSaving_m6 y)) z := by
  rw [codeK_R, DeSaving_e6]
  rfl
def DeSaving_s5 (n : Nat) (k1 : DeSaving_t1 → DeSaving_R) (r3 : DeSaving_t3 → DeSaving_R) (k4 : DeSaving_t4 → DeSaving_R) (z : DeSaving_t5) : DeSaving_R :=
  rounds (fun r6 x' => DeSaving_s6 n k1 r3 k4 r6 x') n (z.1, z.2.1, z.2.2.1, z.2.2.2.1, z.2.2.2.2.1, z.2.2.2.2.2.1, z.2.2.2.2.2.2)
theorem DeSaving_q5 (n : Nat) (k1 : St → DeSaving_R) (r3 : St → DeSaving_R) (k4 : St → DeSaving_R) (z : DeSaving_t5) : codeK Tryz.prog DeSaving_sp n DeSaving_c3 DeSaving_a7 (DeSaving_m5 z) (DeSaving_K2 k4 r3 k1) = DeSaving_s5 n (fun y => k1 (DeSaving_m1 y)) (fun y => r3 (DeSaving_m3 y)) (fun y => k4 (DeSaving_m4 y)) z :=
  Eq.trans (b := rounds (fun r6 st => codeK Tryz.prog DeSaving_sp n DeSaving_c2 DeSaving_a4 st (DeSaving_K1 r6 k4 r3 k1)) n (DeSaving_m6 (z.1, z.2.1, z.2.2.1, z.2.2.2.1, z.2.2.2.2.1, z.2.2.2.2.2.1, z.2.2.2.2.2.2))) (by kernel_rfl) (rounds_mk DeSaving_m6 (fun r6 x' => by
    have := (DeSaving_q6 n k1 r3 k4 r6 x')
    exact this) n _)
def DeSaving_p3 (n : Nat) (k1 : DeSaving_t1 → DeSaving_R) (_r3 : DeSaving_t3 → DeSaving_R) (k4 : DeSaving_t4 → DeSaving_R) (k5 : DeSaving_t5 → DeSaving_R) (z : DeSaving_t3) : DeSaving_R :=
  bif (decide (z.2.2.2.2 ≥ z.2.2.2.1)) then
    ((EFrom n (z.1, ((w64 (z.2.2.2.2 - 7)), (z.2.2.2.2, ()))))).bind fun v9 =>
    k5 (z.1, z.2.1, z.2.2.1, z.2.2.2.1, z.2.2.2.2, (w64 ((List.length v9.1 : Int) - 1)), v9.1)
  else
    k1 z.1
def DeSaving_s3 (n : Nat) (k1 : DeSaving_t1 → DeSaving_R) (r3 : DeSaving_t3 → DeSaving_R) (z : DeSaving_t3) : DeSaving_R := DeSaving_p3 n k1 r3 (DeSaving_s4 n k1 r3) (DeSaving_s5 n k1 r3 (DeSaving_s4 n k1 r3)) z
theorem DeSaving_e3 (n : Nat) (k1 : St → DeSaving_R) (r3 : St → DeSaving_R) (rc : RC DeSaving_R) (z : DeSaving_t3) : codeR rc Tryz.prog DeSaving_sp n DeSaving_c4 DeSaving_a8 (DeSaving_m3 z) (DeSaving_K3 r3 k1) = DeSaving_p3 n (fun y => k1 (DeSaving_m1 y)) (fun y => r3 (DeSaving_m3 y)) (fun y => rc DeSaving_c1 DeSaving_a1 (DeSaving_m4 y) (DeSaving_K0 r3 k1)) (fun y => rc DeSaving_c3 DeSaving_a7 (DeSaving_m5 y) (DeSaving_K2 (fun st => rc DeSaving_c1 DeSaving_a1 st (DeSaving_K0 r3 k1)) r3 k1)) z := by kernel_rfl
theorem DeSaving_q3 (n : Nat) (k1 : St → DeSaving_R) (r3 : St → DeSaving_R) (z : DeSaving_t3) : codeK Tryz.prog DeSaving_sp n DeSaving_c4 DeSaving_a8 (DeSaving_m3 z) (DeSaving_K3 r3 k1) = DeSaving_s3 n (fun y => k1 (DeSaving_m1 y)) (fun y => r3 (DeSaving_m3 y)) z := by
  have h4 : (fun y => codeK Tryz.prog DeSaving_sp n DeSaving_c1 DeSaving_a1 (DeSaving_m4 y) (DeSaving_K0 r3 k1)) = (DeSaving_s4 n (fun y => k1 (DeSaving_m1 y)) (fun y => r3 (DeSaving_m3 y))) := funext fun y => by
    have := DeSaving_q4 n k1 r3 y
    exact this
  have h5 : (fun y => codeK Tryz.prog DeSaving_sp n DeSaving_c3 DeSaving_a7 (DeSaving_m5 y) (DeSaving_K2 (fun st => codeK Tryz.prog DeSaving_sp n DeSaving_c1 DeSaving_a1 st (DeSaving_K0 r3 k1)) r3 k1)) = (DeSaving_s5 n (fun y => k1 (DeSaving_m1 y)) (fun y => r3 (DeSaving_m3 y)) (DeSaving_s4 n (fun y => k1 (DeSaving_m1 y)) (fun y => r3 (DeSaving_m3 y)))) := funext fun y => by
    have := DeSaving_q5 n k1 r3 (fun st => codeK Tryz.prog DeSaving_sp n DeSaving_c1 DeSaving_a1 st (DeSaving_K0 r3 k1)) y
    rw [h4] at this; exact this
  rw [codeK_R, DeSaving_e3]
  rw [h4]
  rw [h5]
  rfl
def DeSaving_s2 (n : Nat) (k1 : DeSaving_t1 → DeSaving_R) (z : DeSaving_t2) : DeSaving_R :=
  rounds (fun r3 x' => DeSaving_s3 n k1 r3 x') n (z.1, z.2.1, z.2.2.1, z.2.2.2.1, z.2.2.2.2)
theorem DeSaving_q2 (n : Nat) (k1 : St → DeSaving_R) (z : DeSaving_t2) : codeK Tryz.prog DeSaving_sp n DeSaving_c5 DeSaving_a9 (DeSaving_m2 z) (DeSaving_K4 k1) = DeSaving_s2 n (fun y => k1 (DeSaving_m1 y)) z :=
  Eq.trans (b := rounds (fun r3 st => codeK Tryz.prog DeSaving_sp n DeSaving_c4 DeSaving_a8 st (DeSaving_K3 r3 k1)) n (DeSaving_m3 (z.1, z.2.1, z.2.2.1, z.2.2.2.1, z.2.2.2.2))) (by kernel_rfl) (rounds_mk DeSaving_m3 (fun r3 x' => by
    have := (DeSaving_q3 n k1 r3 x')
    exact this) n _)
def DeSaving_p0 (_n : Nat) (k1 : DeSaving_t1 → DeSaving_R) (k2 : DeSaving_t2 → DeSaving_R) (z : DeSaving_t0) : DeSaving_R :=
  k2 (z.1, z.2.1, z.2.2.1, z.2.2.2.1, z.2.2.2.2)
def DeSaving_s0 (n : Nat) (z : DeSaving_t0) : DeSaving_R := DeSaving_p0 n (DeSaving_s1 n) (DeSaving_s2 n (DeSaving_s1 n)) z
theorem DeSaving_e0 (n : Nat) (rc : RC DeSaving_R) (z : DeSaving_t0) : codeR rc Tryz.prog DeSaving_sp n DeSaving_c6 DeSaving_a2 (DeSaving_m0 z) (kFin Tryz.prog DeSaving_rs Tryz.f41) = DeSaving_p0 n (fun y => rc DeSaving_c0 DeSaving_a0 (DeSaving_m1 y) (kFin Tryz.prog DeSaving_rs Tryz.f41)) (fun y => rc DeSaving_c5 DeSaving_a9 (DeSaving_m2 y) (DeSaving_K4 (fun st => rc DeSaving_c0 DeSaving_a0 st (kFin Tryz.prog DeSaving_rs Tryz.f41)))) z := by kernel_rfl
theorem DeSaving_q0 (n : Nat) (z : DeSaving_t0) : codeK Tryz.prog DeSaving_sp n DeSaving_c6 DeSaving_a2 (DeSaving_m0 z) (kFin Tryz.prog DeSaving_rs Tryz.f41) = DeSaving_s0 n z := by
  have h1 : (fun y => codeK Tryz.prog DeSaving_sp n DeSaving_c0 DeSaving_a0 (DeSaving_m1 y) (kFin Tryz.prog DeSaving_rs Tryz.f41)) = (DeSaving_s1 n) := funext fun y => by
    have := DeSaving_q1 n  y
    exact this
  have h2 : (fun y => codeK Tryz.prog DeSaving_sp n DeSaving_c5 DeSaving_a9 (DeSaving_m2 y) (DeSaving_K4 (fun st => codeK Tryz.prog DeSaving_sp n DeSaving_c0 DeSaving_a0 st (kFin Tryz.prog DeSaving_rs Tryz.f41)))) = (DeSaving_s2 n (DeSaving_s1 n)) := funext fun y => by
    have := DeSaving_q2 n (fun st => codeK Tryz.prog DeSaving_sp n DeSaving_c0 DeSaving_a0 st (kFin Tryz.prog DeSaving_rs Tryz.f41)) y
    rw [h1] at this; exact this
  rw [codeK_R, DeSaving_e0]
  rw [h1]
  rw [h2]
  rfl
def DeSaving_px (n : Nat) (k0 : DeSaving_t0 → DeSaving_R) (x : ((List D_api_Rule) × D_api_At)) : DeSaving_R :=
  ((Deyear n (x.2.2.1, ()))).bind fun v1 =>
  bif (!v1.2.1) then
    ((ELetter n (x.1, ()))).bind fun v2 =>
    some ((0 : Int), (v2.1, ()))
  else
    bif ((List.length x.1 : Int) == 0) then
      ((ELetter n (x.1, ()))).bind fun v3 =>
      some ((0 : Int), (v3.1, ()))
    else
      ((ESpan n (x.1, ()))).bind fun v4 =>
      let t6 := imin (w64 (v1.1 + 1)) (9999 : Int)
      bif (!v4.2.2.1) then
        k0 (x.1, x.2.1, x.2.2.1, v4.1, (imin t6 v4.2.1))
      else
        k0 (x.1, x.2.1, x.2.2.1, v4.1, t6)
def DeSaving (n : Nat) (x : ((List D_api_Rule) × D_api_At)) : DeSaving_R := DeSaving_px n (DeSaving_s0 n) x
theorem DeSaving_ex (n : Nat) (rc : RC DeSaving_R) (x : ((List D_api_Rule) × D_api_At)) : codeR rc Tryz.prog DeSaving_sp n (bodyOf Tryz.f41) DeSaving_an (start DeSaving_ps x (Func.ntmps Tryz.f41)) (kFin Tryz.prog DeSaving_rs Tryz.f41) = DeSaving_px n (fun y => rc DeSaving_c6 DeSaving_a2 (DeSaving_m0 y) (kFin Tryz.prog DeSaving_rs Tryz.f41)) x := by kernel_rfl
theorem DeSaving_qx (n : Nat) (x : ((List D_api_Rule) × D_api_At)) : codeK Tryz.prog DeSaving_sp n (bodyOf Tryz.f41) DeSaving_an (start DeSaving_ps x (Func.ntmps Tryz.f41)) (kFin Tryz.prog DeSaving_rs Tryz.f41) = DeSaving n x := by
  have h0 : (fun y => codeK Tryz.prog DeSaving_sp n DeSaving_c6 DeSaving_a2 (DeSaving_m0 y) (kFin Tryz.prog DeSaving_rs Tryz.f41)) = (DeSaving_s0 n) := funext fun y => by
    have := DeSaving_q0 n  y
    exact this
  rw [codeK_R, DeSaving_ex]
  rw [h0]
  rfl
def DeSaving_spec : Sp := ⟨DeSaving_ps, DeSaving_rs, DeSaving⟩
theorem DeSaving_ok : SoundX Tryz.prog CX 41 (.f DeSaving_spec) := sound_of (look_cons Deyear_ok (look_cons ELetter_ok (look_cons ESpan_ok (look_cons EFrom_ok (look_cons EInstant_ok look_nil))))) Tryz.func41 (by kernel_rfl) rfl DeSaving_an DeSaving_spec rfl rfl DeSaving_qx

/-! ### (noonmark/den.Zone).saving -/
abbrev DeZone_saving_ps : Ty := (.pair T_A5Zone T_api_At)
abbrev DeZone_saving_rs : Ty := (.pair (.int .i64) (.pair .str .unit))
def DeZone_saving_sp : Specs := look [(41, .f DeSaving_spec)]
def DeZone_saving_an : An := (.s .o (.k [] [] 0 .o .o))
abbrev DeZone_saving_R := Option (Int × (ByteArray × Unit))
noncomputable abbrev DeZone_saving_c0 : Code := (cr (cr (bodyOf Tryz.f23)))
noncomputable abbrev DeZone_saving_a0 : An := DeZone_saving_an.right.right
abbrev DeZone_saving_t0 := Unit
def DeZone_saving_m0 (_z : DeZone_saving_t0) : St := ⟨(jk 38 []), []⟩
def DeZone_saving_p0 (_n : Nat) (_z : DeZone_saving_t0) : DeZone_saving_R :=
  some ((0 : Int), ((⟨#[]⟩ : ByteArray), ()))
def DeZone_saving_s0 (n : Nat) (z : DeZone_saving_t0) : DeZone_saving_R := DeZone_saving_p0 n z
theorem DeZone_saving_e0 (n : Nat) (rc : RC DeZone_saving_R) (z : DeZone_saving_t0) : codeR rc Tryz.prog DeZone_saving_sp n DeZone_saving_c0 DeZone_saving_a0 (DeZone_saving_m0 z) (kFin Tryz.prog DeZone_saving_rs Tryz.f23) = DeZone_saving_p0 n z := by kernel_rfl
theorem DeZone_saving_q0 (n : Nat) (z : DeZone_saving_t0) : codeK Tryz.prog DeZone_saving_sp n DeZone_saving_c0 DeZone_saving_a0 (DeZone_saving_m0 z) (kFin Tryz.prog DeZone_saving_rs Tryz.f23) = DeZone_saving_s0 n z := by
  rw [codeK_R, DeZone_saving_e0]
  rfl
def DeZone_saving_px (n : Nat) (k0 : DeZone_saving_t0 → DeZone_saving_R) (x : (D_A5Zone × D_api_At)) : DeZone_saving_R :=
  bif decide (0 ≤ x.2.1) then
    ((x.1.1[Int.toNat x.2.1]?)).bind fun e1 =>
    bif (e1.2.1 == 1) then
      some (e1.2.2.1, ((⟨#[]⟩ : ByteArray), ()))
    else
      bif (e1.2.1 == 2) then
        bif (decide (x.2.1 < (List.length x.1.2.1 : Int))) then
          bif decide (0 ≤ x.2.1) then
            ((x.1.2.1[Int.toNat x.2.1]?)).bind fun e2 =>
            ((DeSaving n (e2, (e1.1, (x.2.2.1, ()))))).bind fun v3 =>
            some (v3.1, (v3.2.1, ()))
          else none
        else
          k0 ()
      else
        k0 ()
  else none
def DeZone_saving (n : Nat) (x : (D_A5Zone × D_api_At)) : DeZone_saving_R := DeZone_saving_px n (DeZone_saving_s0 n) x
theorem DeZone_saving_ex (n : Nat) (rc : RC DeZone_saving_R) (x : (D_A5Zone × D_api_At)) : codeR rc Tryz.prog DeZone_saving_sp n (bodyOf Tryz.f23) DeZone_saving_an (start DeZone_saving_ps x (Func.ntmps Tryz.f23)) (kFin Tryz.prog DeZone_saving_rs Tryz.f23) = DeZone_saving_px n (fun y => rc DeZone_saving_c0 DeZone_saving_a0 (DeZone_saving_m0 y) (kFin Tryz.prog DeZone_saving_rs Tryz.f23)) x := by kernel_rfl
theorem DeZone_saving_qx (n : Nat) (x : (D_A5Zone × D_api_At)) : codeK Tryz.prog DeZone_saving_sp n (bodyOf Tryz.f23) DeZone_saving_an (start DeZone_saving_ps x (Func.ntmps Tryz.f23)) (kFin Tryz.prog DeZone_saving_rs Tryz.f23) = DeZone_saving n x := by
  have h0 : (fun y => codeK Tryz.prog DeZone_saving_sp n DeZone_saving_c0 DeZone_saving_a0 (DeZone_saving_m0 y) (kFin Tryz.prog DeZone_saving_rs Tryz.f23)) = (DeZone_saving_s0 n) := funext fun y => by
    have := DeZone_saving_q0 n  y
    exact this
  rw [codeK_R, DeZone_saving_ex]
  rw [h0]
  rfl
def DeZone_saving_spec : Sp := ⟨DeZone_saving_ps, DeZone_saving_rs, DeZone_saving⟩
theorem DeZone_saving_ok : SoundX Tryz.prog CX 23 (.f DeZone_saving_spec) := sound_of (look_cons DeSaving_ok look_nil) Tryz.func23 (by kernel_rfl) rfl DeZone_saving_an DeZone_saving_spec rfl rfl DeZone_saving_qx

/-! ### noonmark/den.clock -/
abbrev Declock_ps : Ty := (.pair T_api_Until .unit)
abbrev Declock_rs : Ty := (.pair (.int .i64) (.pair .bool .unit))
def Declock_sp : Specs := look [(61, .f DfOf_spec)]
def Declock_an : An := .o
abbrev Declock_R := Option (Int × (Bool × Unit))

def Declock_px (n : Nat) (x : (D_api_Until × Unit)) : Declock_R :=
  ((DfOf n (x.1.2.2.2.1, (x.1.2.1, (x.1.2.2.1, ()))))).bind fun v1 =>
  let t3 := w64 ((w64 (v1.1 * 86400)) + x.1.2.2.2.2.1.1)
  bif (v1.2.1 == 0) then
    bif (decide (x.1.2.1 ≥ 1)) then
      some (t3, ((decide (x.1.2.1 ≤ 9999)), ()))
    else
      some (t3, (false, ()))
  else
    some (t3, (false, ()))
def Declock (n : Nat) (x : (D_api_Until × Unit)) : Declock_R := Declock_px n x
theorem Declock_ex (n : Nat) (rc : RC Declock_R) (x : (D_api_Until × Unit)) : codeR rc Tryz.prog Declock_sp n (bodyOf Tryz.f40) Declock_an (start Declock_ps x (Func.ntmps Tryz.f40)) (kFin Tryz.prog Declock_rs Tryz.f40) = Declock_px n x := by kernel_rfl
theorem Declock_qx (n : Nat) (x : (D_api_Until × Unit)) : codeK Tryz.prog Declock_sp n (bodyOf Tryz.f40) Declock_an (start Declock_ps x (Func.ntmps Tryz.f40)) (kFin Tryz.prog Declock_rs Tryz.f40) = Declock n x := by
  rw [codeK_R, Declock_ex]
  rfl
def Declock_spec : Sp := ⟨Declock_ps, Declock_rs, Declock⟩
theorem Declock_ok : SoundX Tryz.prog CX 40 (.f Declock_spec) := sound_of (look_cons DfOf_ok look_nil) Tryz.func40 (by kernel_rfl) rfl Declock_an Declock_spec rfl rfl Declock_qx

/-! ### noonmark/den.End -/
abbrev DeEnd_ps : Ty := (.pair T_A5Zone (.pair (.int .i64) .unit))
abbrev DeEnd_rs : Ty := (.pair (.int .i64) .unit)
def DeEnd_sp : Specs := look [(23, .f DeZone_saving_spec), (40, .f Declock_spec)]
def DeEnd_an : An := (.s .o (.k [] [1,2] 1 (.k [] [1,2,29] 1 .o .o) .o))
abbrev DeEnd_R := Option (Int × Unit)
noncomputable abbrev DeEnd_c0 : Code := (cr (cr (bodyOf Tryz.f22)))
noncomputable abbrev DeEnd_c1 : Code := (cr (cl (cr (bodyOf Tryz.f22))))
noncomputable abbrev DeEnd_a0 : An := DeEnd_an.right.right
noncomputable abbrev DeEnd_a1 : An := DeEnd_an.right.left.right
noncomputable abbrev DeEnd_K0 (k0 : St → DeEnd_R) : Ex → St → DeEnd_R := (kSeq k0 DeEnd_an.right (kFin Tryz.prog DeEnd_rs Tryz.f22))
abbrev DeEnd_t0 := Int × D_A5Zone
def DeEnd_m0 (z : DeEnd_t0) : St := ⟨(.junk :: .v ⟨(.int .i64), z.1⟩ :: .v ⟨(.ptr 0 0 T_A5Zone), ()⟩ :: jk 73 []), [some (.one ⟨T_A5Zone, z.2⟩)]⟩
abbrev DeEnd_t1 := Int × Bool × D_A5Zone
def DeEnd_m1 (z : DeEnd_t1) : St := ⟨(.junk :: .v ⟨(.int .i64), z.1⟩ :: .v ⟨(.ptr 0 0 T_A5Zone), ()⟩ :: jk 26 (.v ⟨.bool, z.2.1⟩ :: jk 46 [])), [some (.one ⟨T_A5Zone, z.2.2⟩)]⟩
def DeEnd_p0 (n : Nat) (z : DeEnd_t0) : DeEnd_R :=
  bif decide (0 ≤ z.1) then
    ((z.2.1[Int.toNat z.1]?)).bind fun e2 =>
    ((Declock n (e2.2.2.2.2.2.1, ()))).bind fun v3 =>
    bif (!v3.2.1) then
      some ((0 : Int), ())
    else
      bif (e2.2.2.2.2.2.1.2.2.2.2.1.2.1 == 0) then
        ((DeZone_saving n (z.2, (z.1, ((w64 ((w64 (v3.1 - e2.1)) - 1)), ()))))).bind fun v6 =>
        some ((w64 ((w64 (v3.1 - e2.1)) - v6.1)), ())
      else
        bif (e2.2.2.2.2.2.1.2.2.2.2.1.2.1 == 1) then
          some ((w64 (v3.1 - e2.1)), ())
        else
          some (v3.1, ())
  else none
def DeEnd_s0 (n : Nat) (z : DeEnd_t0) : DeEnd_R := DeEnd_p0 n z
theorem DeEnd_e0 (n : Nat) (rc : RC DeEnd_R) (z : DeEnd_t0) : codeR rc Tryz.prog DeEnd_sp n DeEnd_c0 DeEnd_a0 (DeEnd_m0 z) (kFin Tryz.prog DeEnd_rs Tryz.f22) = DeEnd_p0 n z := by kernel_rfl
theorem DeEnd_q0 (n : Nat) (z : DeEnd_t0) : codeK Tryz.prog DeEnd_sp n DeEnd_c0 DeEnd_a0 (DeEnd_m0 z) (kFin Tryz.prog DeEnd_rs Tryz.f22) = DeEnd_s0 n z := by
  rw [codeK_R, DeEnd_e0]
  rfl
def DeEnd_p1 (_n : Nat) (k0 : DeEnd_t0 → DeEnd_R) (z : DeEnd_t1) : DeEnd_R :=
  bif z.2.1 then
    some ((0 : Int), ())
  else
    k0 (z.1, z.2.2)
def DeEnd_s1 (n : Nat) (k0 : DeEnd_t0 → DeEnd_R) (z : DeEnd_t1) : DeEnd_R := DeEnd_p1 n k0 z
theorem DeEnd_e1 (n : Nat) (k0 : St → DeEnd_R) (rc : RC DeEnd_R) (z : DeEnd_t1) : codeR rc Tryz.prog DeEnd_sp n DeEnd_c1 DeEnd_a1 (DeEnd_m1 z) (DeEnd_K0 k0) = DeEnd_p1 n (fun y => k0 (DeEnd_m0 y)) z := by kernel_rfl
theorem DeEnd_q1 (n : Nat) (k0 : St → DeEnd_R) (z : DeEnd_t1) : codeK Tryz.prog DeEnd_sp n DeEnd_c1 DeEnd_a1 (DeEnd_m1 z) (DeEnd_K0 k0) = DeEnd_s1 n (fun y => k0 (DeEnd_m0 y)) z := by
  rw [codeK_R, DeEnd_e1]
  rfl
def DeEnd_px (_n : Nat) (k0 : DeEnd_t0 → DeEnd_R) (k1 : DeEnd_t1 → DeEnd_R) (x : (D_A5Zone × (Int × Unit))) : DeEnd_R :=
  bif (decide (x.2.1 < 0)) then
    k1 (x.2.1, true, x.1)
  else
    bif (decide (x.2.1 ≥ (List.length x.1.1 : Int))) then
      k1 (x.2.1, true, x.1)
    else
      bif decide (0 ≤ x.2.1) then
        ((x.1.1[Int.toNat x.2.1]?)).bind fun e1 =>
        k1 (x.2.1, (!e1.2.2.2.2.2.1.1), x.1)
      else none
def DeEnd (n : Nat) (x : (D_A5Zone × (Int × Unit))) : DeEnd_R := DeEnd_px n (DeEnd_s0 n) (DeEnd_s1 n (DeEnd_s0 n)) x
theorem DeEnd_ex (n : Nat) (rc : RC DeEnd_R) (x : (D_A5Zone × (Int × Unit))) : codeR rc Tryz.prog DeEnd_sp n (bodyOf Tryz.f22) DeEnd_an (start DeEnd_ps x (Func.ntmps Tryz.f22)) (kFin Tryz.prog DeEnd_rs Tryz.f22) = DeEnd_px n (fun y => rc DeEnd_c0 DeEnd_a0 (DeEnd_m0 y) (kFin Tryz.prog DeEnd_rs Tryz.f22)) (fun y => rc DeEnd_c1 DeEnd_a1 (DeEnd_m1 y) (DeEnd_K0 (fun st => rc DeEnd_c0 DeEnd_a0 st (kFin Tryz.prog DeEnd_rs Tryz.f22)))) x := by kernel_rfl
theorem DeEnd_qx (n : Nat) (x : (D_A5Zone × (Int × Unit))) : codeK Tryz.prog DeEnd_sp n (bodyOf Tryz.f22) DeEnd_an (start DeEnd_ps x (Func.ntmps Tryz.f22)) (kFin Tryz.prog DeEnd_rs Tryz.f22) = DeEnd n x := by
  have h0 : (fun y => codeK Tryz.prog DeEnd_sp n DeEnd_c0 DeEnd_a0 (DeEnd_m0 y) (kFin Tryz.prog DeEnd_rs Tryz.f22)) = (DeEnd_s0 n) := funext fun y => by
    have := DeEnd_q0 n  y
    exact this
  have h1 : (fun y => codeK Tryz.prog DeEnd_sp n DeEnd_c1 DeEnd_a1 (DeEnd_m1 y) (DeEnd_K0 (fun st => codeK Tryz.prog DeEnd_sp n DeEnd_c0 DeEnd_a0 st (kFin Tryz.prog DeEnd_rs Tryz.f22)))) = (DeEnd_s1 n (DeEnd_s0 n)) := funext fun y => by
    have := DeEnd_q1 n (fun st => codeK Tryz.prog DeEnd_sp n DeEnd_c0 DeEnd_a0 st (kFin Tryz.prog DeEnd_rs Tryz.f22)) y
    rw [h0] at this; exact this
  rw [codeK_R, DeEnd_ex]
  rw [h0]
  rw [h1]
  rfl
def DeEnd_spec : Sp := ⟨DeEnd_ps, DeEnd_rs, DeEnd⟩
theorem DeEnd_ok : SoundX Tryz.prog CX 22 (.f DeEnd_spec) := sound_of (look_cons DeZone_saving_ok (look_cons Declock_ok look_nil)) Tryz.func22 (by kernel_rfl) rfl DeEnd_an DeEnd_spec rfl rfl DeEnd_qx

/-! ### noonmark/den.within -/
abbrev Dewithin_ps : Ty := T_api_At
abbrev Dewithin_rs : Ty := (.pair .bool .unit)
def Dewithin_sp : Specs := look []
def Dewithin_an : An := .o
abbrev Dewithin_R := Option (Bool × Unit)

def Dewithin_px (_n : Nat) (x : D_api_At) : Dewithin_R :=
  bif (decide (x.1 ≥ (w64 (0 - x.2.1)))) then
    some ((decide (x.1 ≤ x.2.1)), ())
  else
    some (false, ())
def Dewithin (n : Nat) (x : D_api_At) : Dewithin_R := Dewithin_px n x
theorem Dewithin_ex (n : Nat) (rc : RC Dewithin_R) (x : D_api_At) : codeR rc Tryz.prog Dewithin_sp n (bodyOf Tryz.f56) Dewithin_an (start Dewithin_ps x (Func.ntmps Tryz.f56)) (kFin Tryz.prog Dewithin_rs Tryz.f56) = Dewithin_px n x := by kernel_rfl
theorem Dewithin_qx (n : Nat) (x : D_api_At) : codeK Tryz.prog Dewithin_sp n (bodyOf Tryz.f56) Dewithin_an (start Dewithin_ps x (Func.ntmps Tryz.f56)) (kFin Tryz.prog Dewithin_rs Tryz.f56) = Dewithin n x := by
  rw [codeK_R, Dewithin_ex]
  rfl
def Dewithin_spec : Sp := ⟨Dewithin_ps, Dewithin_rs, Dewithin⟩
theorem Dewithin_ok : SoundX Tryz.prog CX 56 (.f Dewithin_spec) := sound_of look_nil Tryz.func56 (by kernel_rfl) rfl Dewithin_an Dewithin_spec rfl rfl Dewithin_qx

/-! ### noonmark/den.clocked -/
abbrev Declocked_ps : Ty := (.pair T_api_At .unit)
abbrev Declocked_rs : Ty := (.pair .bool .unit)
def Declocked_sp : Specs := look [(56, .f Dewithin_spec)]
def Declocked_an : An := .o
abbrev Declocked_R := Option (Bool × Unit)

def Declocked_px (n : Nat) (x : (D_api_At × Unit)) : Declocked_R :=
  ((Dewithin n (x.1.1, ((604799 : Int), ())))).bind fun v1 =>
  bif v1.1 then
    bif (decide (x.1.2.1 ≥ 0)) then
      some ((decide (x.1.2.1 ≤ 2)), ())
    else
      some (false, ())
  else
    some (false, ())
def Declocked (n : Nat) (x : (D_api_At × Unit)) : Declocked_R := Declocked_px n x
theorem Declocked_ex (n : Nat) (rc : RC Declocked_R) (x : (D_api_At × Unit)) : codeR rc Tryz.prog Declocked_sp n (bodyOf Tryz.f57) Declocked_an (start Declocked_ps x (Func.ntmps Tryz.f57)) (kFin Tryz.prog Declocked_rs Tryz.f57) = Declocked_px n x := by kernel_rfl
theorem Declocked_qx (n : Nat) (x : (D_api_At × Unit)) : codeK Tryz.prog Declocked_sp n (bodyOf Tryz.f57) Declocked_an (start Declocked_ps x (Func.ntmps Tryz.f57)) (kFin Tryz.prog Declocked_rs Tryz.f57) = Declocked n x := by
  rw [codeK_R, Declocked_ex]
  rfl
def Declocked_spec : Sp := ⟨Declocked_ps, Declocked_rs, Declocked⟩
theorem Declocked_ok : SoundX Tryz.prog CX 57 (.f Declocked_spec) := sound_of (look_cons Dewithin_ok look_nil) Tryz.func57 (by kernel_rfl) rfl Declocked_an Declocked_spec rfl rfl Declocked_qx

/-! ### noonmark/den.fits$1 -/
abbrev Defits_1_ps : Ty := (.pair T_api_Rule .unit)
abbrev Defits_1_rs : Ty := (.pair .bool .unit)
def Defits_1_sp : Specs := look [(56, .f Dewithin_spec), (57, .f Declocked_spec)]
def Defits_1_an : An := .o
abbrev Defits_1_R := Option (Bool × Unit)

def Defits_1_px (n : Nat) (x : (D_api_Rule × Unit)) : Defits_1_R :=
  ((Dewithin n (x.1.2.2.2.2.2.2.1, ((86400 : Int), ())))).bind fun v1 =>
  bif (!v1.1) then
    some (true, ())
  else
    ((Declocked n (x.1.2.2.2.2.2.1, ()))).bind fun v2 =>
    some ((!v2.1), ())
def Defits_1 (n : Nat) (x : (D_api_Rule × Unit)) : Defits_1_R := Defits_1_px n x
theorem Defits_1_ex (n : Nat) (rc : RC Defits_1_R) (x : (D_api_Rule × Unit)) : codeR rc Tryz.prog Defits_1_sp n (bodyOf Tryz.f59) Defits_1_an (start Defits_1_ps x (Func.ntmps Tryz.f59)) (kFin Tryz.prog Defits_1_rs Tryz.f59) = Defits_1_px n x := by kernel_rfl
theorem Defits_1_qx (n : Nat) (x : (D_api_Rule × Unit)) : codeK Tryz.prog Defits_1_sp n (bodyOf Tryz.f59) Defits_1_an (start Defits_1_ps x (Func.ntmps Tryz.f59)) (kFin Tryz.prog Defits_1_rs Tryz.f59) = Defits_1 n x := by
  rw [codeK_R, Defits_1_ex]
  rfl
def Defits_1_spec : Sp := ⟨Defits_1_ps, Defits_1_rs, Defits_1⟩
theorem Defits_1_ok : SoundX Tryz.prog CX 59 (.f Defits_1_spec) := sound_of (look_cons Dewithin_ok (look_cons Declocked_ok look_nil)) Tryz.func59 (by kernel_rfl) rfl Defits_1_an Defits_1_spec rfl rfl Defits_1_qx

/-! ### slices.IndexFunc[[]noonmark/api.Rule,noonmark/api.Rule] -/
abbrev slices_IndexFunc_api_Rule_api_Rule_Defits_1_ps : Ty := (.pair (.list T_api_Rule) (.pair (.fn 59 0 .unit) .unit))
abbrev slices_IndexFunc_api_Rule_api_Rule_Defits_1_rs : Ty := (.pair (.int .i64) .unit)
def slices_IndexFunc_api_Rule_api_Rule_Defits_1_sp : Specs := look [(59, .f Defits_1_spec)]
def slices_IndexFunc_api_Rule_api_Rule_Defits_1_an : An := (.s .o (.k [] [] 0 (.k [] [0,1,7,8] 0 .o (.b (.l [] [0,1,7,8] 0 .o))) .o))
abbrev slices_IndexFunc_api_Rule_api_Rule_Defits_1_R := Option (Int × Unit)
noncomputable abbrev slices_IndexFunc_api_Rule_api_Rule_Defits_1_c0 : Code := (cr (cr (bodyOf Tryz.f80)))
noncomputable abbrev slices_IndexFunc_api_Rule_api_Rule_Defits_1_c1 : Code := (cl (cl (cr (cl (cr (bodyOf Tryz.f80))))))
noncomputable abbrev slices_IndexFunc_api_Rule_api_Rule_Defits_1_c2 : Code := (cr (cl (cr (bodyOf Tryz.f80))))
noncomputable abbrev slices_IndexFunc_api_Rule_api_Rule_Defits_1_a0 : An := slices_IndexFunc_api_Rule_api_Rule_Defits_1_an.right.right
noncomputable abbrev slices_IndexFunc_api_Rule_api_Rule_Defits_1_a1 : An := slices_IndexFunc_api_Rule_api_Rule_Defits_1_an.right.left.right.left.left
noncomputable abbrev slices_IndexFunc_api_Rule_api_Rule_Defits_1_a2 : An := slices_IndexFunc_api_Rule_api_Rule_Defits_1_an.right.left.right.left
noncomputable abbrev slices_IndexFunc_api_Rule_api_Rule_Defits_1_a3 : An := slices_IndexFunc_api_Rule_api_Rule_Defits_1_an.right.left.right
noncomputable abbrev slices_IndexFunc_api_Rule_api_Rule_Defits_1_K0 : Ex → St → slices_IndexFunc_api_Rule_api_Rule_Defits_1_R := (kFin Tryz.prog slices_IndexFunc_api_Rule_api_Rule_Defits_1_rs Tryz.f80)
noncomputable abbrev slices_IndexFunc_api_Rule_api_Rule_Defits_1_K1 (r2 k0 : St → slices_IndexFunc_api_Rule_api_Rule_Defits_1_R) : Ex → St → slices_IndexFunc_api_Rule_api_Rule_Defits_1_R := (kSeq r2 slices_IndexFunc_api_Rule_api_Rule_Defits_1_a2 (kBlk 0 (kSeq k0 slices_IndexFunc_api_Rule_api_Rule_Defits_1_an.right (kFin Tryz.prog slices_IndexFunc_api_Rule_api_Rule_Defits_1_rs Tryz.f80))))
noncomputable abbrev slices_IndexFunc_api_Rule_api_Rule_Defits_1_K2 (k0 : St → slices_IndexFunc_api_Rule_api_Rule_Defits_1_R) : Ex → St → slices_IndexFunc_api_Rule_api_Rule_Defits_1_R := (kSeq k0 slices_IndexFunc_api_Rule_api_Rule_Defits_1_an.right (kFin Tryz.prog slices_IndexFunc_api_Rule_api_Rule_Defits_1_rs Tryz.f80))
noncomputable abbrev slices_IndexFunc_api_Rule_api_Rule_Defits_1_K3 : Ex → St → slices_IndexFunc_api_Rule_api_Rule_Defits_1_R := (kFin Tryz.prog slices_IndexFunc_api_Rule_api_Rule_Defits_1_rs Tryz.f80)
abbrev slices_IndexFunc_api_Rule_api_Rule_Defits_1_t0 := Unit
def slices_IndexFunc_api_Rule_api_Rule_Defits_1_m0 (_z : slices_IndexFunc_api_Rule_api_Rule_Defits_1_t0) : St := ⟨(jk 19 []), []⟩
abbrev slices_IndexFunc_api_Rule_api_Rule_Defits_1_t1 := (List D_api_Rule) × Int × Int
def slices_IndexFunc_api_Rule_api_Rule_Defits_1_m1 (z : slices_IndexFunc_api_Rule_api_Rule_Defits_1_t1) : St := ⟨(.v ⟨(.list T_api_Rule), z.1⟩ :: .v ⟨(.fn 59 0 .unit), ()⟩ :: jk 5 (.v ⟨(.int .i64), z.2.1⟩ :: .v ⟨(.int .i64), z.2.2⟩ :: jk 10 [])), []⟩
abbrev slices_IndexFunc_api_Rule_api_Rule_Defits_1_t2 := (List D_api_Rule) × Int × Int
def slices_IndexFunc_api_Rule_api_Rule_Defits_1_m2 (z : slices_IndexFunc_api_Rule_api_Rule_Defits_1_t2) : St := ⟨(.v ⟨(.list T_api_Rule), z.1⟩ :: .v ⟨(.fn 59 0 .unit), ()⟩ :: jk 5 (.v ⟨(.int .i64), z.2.1⟩ :: .v ⟨(.int .i64), z.2.2⟩ :: jk 10 [])), []⟩
def slices_IndexFunc_api_Rule_api_Rule_Defits_1_p0 (_n : Nat) (_z : slices_IndexFunc_api_Rule_api_Rule_Defits_1_t0) : slices_IndexFunc_api_Rule_api_Rule_Defits_1_R :=
  some ((-1 : Int), ())
def slices_IndexFunc_api_Rule_api_Rule_Defits_1_s0 (n : Nat) (z : slices_IndexFunc_api_Rule_api_Rule_Defits_1_t0) : slices_IndexFunc_api_Rule_api_Rule_Defits_1_R := slices_IndexFunc_api_Rule_api_Rule_Defits_1_p0 n z
theorem slices_IndexFunc_api_Rule_api_Rule_Defits_1_e0 (n : Nat) (rc : RC slices_IndexFunc_api_Rule_api_Rule_Defits_1_R) (z : slices_IndexFunc_api_Rule_api_Rule_Defits_1_t0) : codeR rc Tryz.prog slices_IndexFunc_api_Rule_api_Rule_Defits_1_sp n slices_IndexFunc_api_Rule_api_Rule_Defits_1_c0 slices_IndexFunc_api_Rule_api_Rule_Defits_1_a0 (slices_IndexFunc_api_Rule_api_Rule_Defits_1_m0 z) slices_IndexFunc_api_Rule_api_Rule_Defits_1_K0 = slices_IndexFunc_api_Rule_api_Rule_Defits_1_p0 n z := by kernel_rfl
theorem slices_IndexFunc_api_Rule_api_Rule_Defits_1_q0 (n : Nat) (z : slices_IndexFunc_api_Rule_api_Rule_Defits_1_t0) : codeK Tryz.prog slices_IndexFunc_api_Rule_api_Rule_Defits_1_sp n slices_IndexFunc_api_Rule_api_Rule_Defits_1_c0 slices_IndexFunc_api_Rule_api_Rule_Defits_1_a0 (slices_IndexFunc_api_Rule_api_Rule_Defits_1_m0 z) slices_IndexFunc_api_Rule_api_Rule_Defits_1_K0 = slices_IndexFunc_api_Rule_api_Rule_Defits_1_s0 n z := by
  rw [codeK_R, slices_IndexFunc_api_Rule_api_Rule_Defits_1_e0]
  rfl
def slices_IndexFunc_api_Rule_api_Rule_Defits_1_p2 (n : Nat) (k0 : slices_IndexFunc_api_Rule_api_Rule_Defits_1_t0 → slices_IndexFunc_api_Rule_api_Rule_Defits_1_R) (r2 : slices_IndexFunc_api_Rule_api_Rule_Defits_1_t2 → slices_IndexFunc_api_Rule_api_Rule_Defits_1_R) (z : slices_IndexFunc_api_Rule_api_Rule_Defits_1_t2) : slices_IndexFunc_api_Rule_api_Rule_Defits_1_R :=
  bif (decide (z.2.2 < z.2.1)) then
    bif decide (0 ≤ z.2.2) then
      ((z.1[Int.toNat z.2.2]?)).bind fun e1 =>
      ((Defits_1 n (e1, ()))).bind fun v2 =>
      bif v2.1 then
        some (z.2.2, ())
      else
        r2 (z.1, z.2.1, (w64 (z.2.2 + 1)))
    else none
  else
    k0 ()
def slices_IndexFunc_api_Rule_api_Rule_Defits_1_s2 (n : Nat) (k0 : slices_IndexFunc_api_Rule_api_Rule_Defits_1_t0 → slices_IndexFunc_api_Rule_api_Rule_Defits_1_R) (r2 : slices_IndexFunc_api_Rule_api_Rule_Defits_1_t2 → slices_IndexFunc_api_Rule_api_Rule_Defits_1_R) (z : slices_IndexFunc_api_Rule_api_Rule_Defits_1_t2) : slices_IndexFunc_api_Rule_api_Rule_Defits_1_R := slices_IndexFunc_api_Rule_api_Rule_Defits_1_p2 n k0 r2 z
theorem slices_IndexFunc_api_Rule_api_Rule_Defits_1_e2 (n : Nat) (k0 : St → slices_IndexFunc_api_Rule_api_Rule_Defits_1_R) (r2 : St → slices_IndexFunc_api_Rule_api_Rule_Defits_1_R) (rc : RC slices_IndexFunc_api_Rule_api_Rule_Defits_1_R) (z : slices_IndexFunc_api_Rule_api_Rule_Defits_1_t2) : codeR rc Tryz.prog slices_IndexFunc_api_Rule_api_Rule_Defits_1_sp n slices_IndexFunc_api_Rule_api_Rule_Defits_1_c1 slices_IndexFunc_api_Rule_api_Rule_Defits_1_a1 (slices_IndexFunc_api_Rule_api_Rule_Defits_1_m2 z) (slices_IndexFunc_api_Rule_api_Rule_Defits_1_K1 r2 k0) = slices_IndexFunc_api_Rule_api_Rule_Defits_1_p2 n (fun y => k0 (slices_IndexFunc_api_Rule_api_Rule_Defits_1_m0 y)) (fun y => r2 (slices_IndexFunc_api_Rule_api_Rule_Defits_1_m2 y)) z := by kernel_rfl
theorem slices_IndexFunc_api_Rule_api_Rule_Defits_1_q2 (n : Nat) (k0 : St → slices_IndexFunc_api_Rule_api_Rule_Defits_1_R) (r2 : St → slices_IndexFunc_api_Rule_api_Rule_Defits_1_R) (z : slices_IndexFunc_api_Rule_api_Rule_Defits_1_t2) : codeK Tryz.prog slices_IndexFunc_api_Rule_api_Rule_Defits_1_sp n slices_IndexFunc_api_Rule_api_Rule_Defits_1_c1 slices_IndexFunc_api_Rule_api_Rule_Defits_1_a1 (slices_IndexFunc_api_Rule_api_Rule_Defits_1_m2 z) (slices_IndexFunc_api_Rule_api_Rule_Defits_1_K1 r2 k0) = slices_IndexFunc_api_Rule_api_Rule_Defits_1_s2 n (fun y => k0 (slices_IndexFunc_api_Rule_api_Rule_Defits_1_m0 y)) (fun y => r2 (slices_IndexFunc_api_Rule_api_Rule_Defits_1_m2 y)) z := by
  rw [codeK_R, slices_IndexFunc_api_Rule_api_Rule_Defits_1_e2]
  rfl
def slices_IndexFunc_api_Rule_api_Rule_Defits_1_s1 (n : Nat) (k0 : slices_IndexFunc_api_Rule_api_Rule_Defits_1_t0 → slices_IndexFunc_api_Rule_api_Rule_Defits_1_R) (z : slices_IndexFunc_api_Rule_api_Rule_Defits_1_t1) : slices_IndexFunc_api_Rule_api_Rule_Defits_1_R :=
  rounds (fun r2 x' => slices_IndexFunc_api_Rule_api_Rule_Defits_1_s2 n k0 r2 x') n (z.1, z.2.1, z.2.2)
theorem slices_IndexFunc_api_Rule_api_Rule_Defits_1_q1 (n : Nat) (k0 : St → slices_IndexFunc_api_Rule_api_Rule_Defits_1_R) (z : slices_IndexFunc_api_Rule_api_Rule_Defits_1_t1) : codeK Tryz.prog slices_IndexFunc_api_Rule_api_Rule_Defits_1_sp n slices_IndexFunc_api_Rule_api_Rule_Defits_1_c2 slices_IndexFunc_api_Rule_api_Rule_Defits_1_a3 (slices_IndexFunc_api_Rule_api_Rule_Defits_1_m1 z) (slices_IndexFunc_api_Rule_api_Rule_Defits_1_K2 k0) = slices_IndexFunc_api_Rule_api_Rule_Defits_1_s1 n (fun y => k0 (slices_IndexFunc_api_Rule_api_Rule_Defits_1_m0 y)) z :=
  Eq.trans (b := rounds (fun r2 st => codeK Tryz.prog slices_IndexFunc_api_Rule_api_Rule_Defits_1_sp n slices_IndexFunc_api_Rule_api_Rule_Defits_1_c1 slices_IndexFunc_api_Rule_api_Rule_Defits_1_a1 st (slices_IndexFunc_api_Rule_api_Rule_Defits_1_K1 r2 k0)) n (slices_IndexFunc_api_Rule_api_Rule_Defits_1_m2 (z.1, z.2.1, z.2.2))) (by kernel_rfl) (rounds_mk slices_IndexFunc_api_Rule_api_Rule_Defits_1_m2 (fun r2 x' => by
    have := (slices_IndexFunc_api_Rule_api_Rule_Defits_1_q2 n k0 r2 x')
    exact this) n _)
def slices_IndexFunc_api_Rule_api_Rule_Defits_1_px (_n : Nat) (k0 : slices_IndexFunc_api_Rule_api_Rule_Defits_1_t0 → slices_IndexFunc_api_Rule_api_Rule_Defits_1_R) (k1 : slices_IndexFunc_api_Rule_api_Rule_Defits_1_t1 → slices_IndexFunc_api_Rule_api_Rule_Defits_1_R) (x : ((List D_api_Rule) × (Unit × Unit))) : slices_IndexFunc_api_Rule_api_Rule_Defits_1_R :=
  k1 (x.1, (List.length x.1 : Int), (0 : Int))
def slices_IndexFunc_api_Rule_api_Rule_Defits_1 (n : Nat) (x : ((List D_api_Rule) × (Unit × Unit))) : slices_IndexFunc_api_Rule_api_Rule_Defits_1_R := slices_IndexFunc_api_Rule_api_Rule_Defits_1_px n (slices_IndexFunc_api_Rule_api_Rule_Defits_1_s0 n) (slices_IndexFunc_api_Rule_api_Rule_Defits_1_s1 n (slices_IndexFunc_api_Rule_api_Rule_Defits_1_s0 n)) x
theorem slices_IndexFunc_api_Rule_api_Rule_Defits_1_ex (n : Nat) (rc : RC slices_IndexFunc_api_Rule_api_Rule_Defits_1_R) (x : ((List D_api_Rule) × (Unit × Unit))) : codeR rc Tryz.prog slices_IndexFunc_api_Rule_api_Rule_Defits_1_sp n (bodyOf Tryz.f80) slices_IndexFunc_api_Rule_api_Rule_Defits_1_an (start slices_IndexFunc_api_Rule_api_Rule_Defits_1_ps x (Func.ntmps Tryz.f80)) slices_IndexFunc_api_Rule_api_Rule_Defits_1_K3 = slices_IndexFunc_api_Rule_api_Rule_Defits_1_px n (fun y => rc slices_IndexFunc_api_Rule_api_Rule_Defits_1_c0 slices_IndexFunc_api_Rule_api_Rule_Defits_1_a0 (slices_IndexFunc_api_Rule_api_Rule_Defits_1_m0 y) slices_IndexFunc_api_Rule_api_Rule_Defits_1_K0) (fun y => rc slices_IndexFunc_api_Rule_api_Rule_Defits_1_c2 slices_IndexFunc_api_Rule_api_Rule_Defits_1_a3 (slices_IndexFunc_api_Rule_api_Rule_Defits_1_m1 y) (slices_IndexFunc_api_Rule_api_Rule_Defits_1_K2 (fun st => rc slices_IndexFunc_api_Rule_api_Rule_Defits_1_c0 slices_IndexFunc_api_Rule_api_Rule_Defits_1_a0 st slices_IndexFunc_api_Rule_api_Rule_Defits_1_K0))) x := by kernel_rfl
theorem slices_IndexFunc_api_Rule_api_Rule_Defits_1_qx (n : Nat) (x : ((List D_api_Rule) × (Unit × Unit))) : codeK Tryz.prog slices_IndexFunc_api_Rule_api_Rule_Defits_1_sp n (bodyOf Tryz.f80) slices_IndexFunc_api_Rule_api_Rule_Defits_1_an (start slices_IndexFunc_api_Rule_api_Rule_Defits_1_ps x (Func.ntmps Tryz.f80)) slices_IndexFunc_api_Rule_api_Rule_Defits_1_K3 = slices_IndexFunc_api_Rule_api_Rule_Defits_1 n x := by
  have h0 : (fun y => codeK Tryz.prog slices_IndexFunc_api_Rule_api_Rule_Defits_1_sp n slices_IndexFunc_api_Rule_api_Rule_Defits_1_c0 slices_IndexFunc_api_Rule_api_Rule_Defits_1_a0 (slices_IndexFunc_api_Rule_api_Rule_Defits_1_m0 y) slices_IndexFunc_api_Rule_api_Rule_Defits_1_K0) = (slices_IndexFunc_api_Rule_api_Rule_Defits_1_s0 n) := funext fun y => by
    have := slices_IndexFunc_api_Rule_api_Rule_Defits_1_q0 n  y
    exact this
  have h1 : (fun y => codeK Tryz.prog slices_IndexFunc_api_Rule_api_Rule_Defits_1_sp n slices_IndexFunc_api_Rule_api_Rule_Defits_1_c2 slices_IndexFunc_api_Rule_api_Rule_Defits_1_a3 (slices_IndexFunc_api_Rule_api_Rule_Defits_1_m1 y) (slices_IndexFunc_api_Rule_api_Rule_Defits_1_K2 (fun st => codeK Tryz.prog slices_IndexFunc_api_Rule_api_Rule_Defits_1_sp n slices_IndexFunc_api_Rule_api_Rule_Defits_1_c0 slices_IndexFunc_api_Rule_api_Rule_Defits_1_a0 st slices_IndexFunc_api_Rule_api_Rule_Defits_1_K0))) = (slices_IndexFunc_api_Rule_api_Rule_Defits_1_s1 n (slices_IndexFunc_api_Rule_api_Rule_Defits_1_s0 n)) := funext fun y => by
    have := slices_IndexFunc_api_Rule_api_Rule_Defits_1_q1 n (fun st => codeK Tryz.prog slices_IndexFunc_api_Rule_api_Rule_Defits_1_sp n slices_IndexFunc_api_Rule_api_Rule_Defits_1_c0 slices_IndexFunc_api_Rule_api_Rule_Defits_1_a0 st slices_IndexFunc_api_Rule_api_Rule_Defits_1_K0) y
    rw [h0] at this; exact this
  rw [codeK_R, slices_IndexFunc_api_Rule_api_Rule_Defits_1_ex]
  rw [h0]
  rw [h1]
  rfl
def slices_IndexFunc_api_Rule_api_Rule_Defits_1_spec : Sp := ⟨slices_IndexFunc_api_Rule_api_Rule_Defits_1_ps, slices_IndexFunc_api_Rule_api_Rule_Defits_1_rs, slices_IndexFunc_api_Rule_api_Rule_Defits_1⟩
theorem slices_IndexFunc_api_Rule_api_Rule_Defits_1_ok : SoundX Tryz.prog CX 80 (.f slices_IndexFunc_api_Rule_api_Rule_Defits_1_spec) := sound_of (look_cons Defits_1_ok look_nil) Tryz.func80 (by kernel_rfl) rfl slices_IndexFunc_api_Rule_api_Rule_Defits_1_an slices_IndexFunc_api_Rule_api_Rule_Defits_1_spec rfl rfl slices_IndexFunc_api_Rule_api_Rule_Defits_1_qx

/-! ### slices.ContainsFunc[[]noonmark/api.Rule,noonmark/api.Rule] -/
abbrev slices_ContainsFunc_api_Rule_api_Rule_Defits_1_ps : Ty := (.pair (.list T_api_Rule) (.pair (.fn 59 0 .unit) .unit))
abbrev slices_ContainsFunc_api_Rule_api_Rule_Defits_1_rs : Ty := (.pair .bool .unit)
def slices_ContainsFunc_api_Rule_api_Rule_Defits_1_sp : Specs := look [(80, .f slices_IndexFunc_api_Rule_api_Rule_Defits_1_spec)]
def slices_ContainsFunc_api_Rule_api_Rule_Defits_1_an : An := .o
abbrev slices_ContainsFunc_api_Rule_api_Rule_Defits_1_R := Option (Bool × Unit)
noncomputable abbrev slices_ContainsFunc_api_Rule_api_Rule_Defits_1_K0 : Ex → St → slices_ContainsFunc_api_Rule_api_Rule_Defits_1_R := (kFin Tryz.prog slices_ContainsFunc_api_Rule_api_Rule_Defits_1_rs Tryz.f58)
def slices_ContainsFunc_api_Rule_api_Rule_Defits_1_px (n : Nat) (x : ((List D_api_Rule) × (Unit × Unit))) : slices_ContainsFunc_api_Rule_api_Rule_Defits_1_R :=
  ((slices_IndexFunc_api_Rule_api_Rule_Defits_1 n (x.1, (x.2.1, ())))).bind fun v1 =>
  some ((decide (v1.1 ≥ 0)), ())
def slices_ContainsFunc_api_Rule_api_Rule_Defits_1 (n : Nat) (x : ((List D_api_Rule) × (Unit × Unit))) : slices_ContainsFunc_api_Rule_api_Rule_Defits_1_R := slices_ContainsFunc_api_Rule_api_Rule_Defits_1_px n x
theorem slices_ContainsFunc_api_Rule_api_Rule_Defits_1_ex (n : Nat) (rc : RC slices_ContainsFunc_api_Rule_api_Rule_Defits_1_R) (x : ((List D_api_Rule) × (Unit × Unit))) : codeR rc Tryz.prog slices_ContainsFunc_api_Rule_api_Rule_Defits_1_sp n (bodyOf Tryz.f58) slices_ContainsFunc_api_Rule_api_Rule_Defits_1_an (start slices_ContainsFunc_api_Rule_api_Rule_Defits_1_ps x (Func.ntmps Tryz.f58)) slices_ContainsFunc_api_Rule_api_Rule_Defits_1_K0 = slices_ContainsFunc_api_Rule_api_Rule_Defits_1_px n x := by kernel_rfl
theorem slices_ContainsFunc_api_Rule_api_Rule_Defits_1_qx (n : Nat) (x : ((List D_api_Rule) × (Unit × Unit))) : codeK Tryz.prog slices_ContainsFunc_api_Rule_api_Rule_Defits_1_sp n (bodyOf Tryz.f58) slices_ContainsFunc_api_Rule_api_Rule_Defits_1_an (start slices_ContainsFunc_api_Rule_api_Rule_Defits_1_ps x (Func.ntmps Tryz.f58)) slices_ContainsFunc_api_Rule_api_Rule_Defits_1_K0 = slices_ContainsFunc_api_Rule_api_Rule_Defits_1 n x := by
  rw [codeK_R, slices_ContainsFunc_api_Rule_api_Rule_Defits_1_ex]
  rfl
def slices_ContainsFunc_api_Rule_api_Rule_Defits_1_spec : Sp := ⟨slices_ContainsFunc_api_Rule_api_Rule_Defits_1_ps, slices_ContainsFunc_api_Rule_api_Rule_Defits_1_rs, slices_ContainsFunc_api_Rule_api_Rule_Defits_1⟩
theorem slices_ContainsFunc_api_Rule_api_Rule_Defits_1_ok : SoundX Tryz.prog CX 58 (.f slices_ContainsFunc_api_Rule_api_Rule_Defits_1_spec) := sound_of (look_cons slices_IndexFunc_api_Rule_api_Rule_Defits_1_ok look_nil) Tryz.func58 (by kernel_rfl) rfl slices_ContainsFunc_api_Rule_api_Rule_Defits_1_an slices_ContainsFunc_api_Rule_api_Rule_Defits_1_spec rfl rfl slices_ContainsFunc_api_Rule_api_Rule_Defits_1_qx

/-! ### noonmark/den.fits -/
abbrev Defits_ps : Ty := (.pair T_api_Era (.pair (.list T_api_Rule) .unit))
abbrev Defits_rs : Ty := (.pair .bool .unit)
def Defits_sp : Specs := look [(40, .f Declock_spec), (56, .f Dewithin_spec), (57, .f Declocked_spec), (58, .f slices_ContainsFunc_api_Rule_api_Rule_Defits_1_spec)]
def Defits_an : An := (.s .o (.k [] [1,2] 1 (.k [] [1,2,36] 1 .o .o) (.k [] [1] 0 .o .o)))
abbrev Defits_R := Option (Bool × Unit)
noncomputable abbrev Defits_c0 : Code := (cr (cr (cr (bodyOf Tryz.f37))))
noncomputable abbrev Defits_c1 : Code := (cr (cr (bodyOf Tryz.f37)))
noncomputable abbrev Defits_c2 : Code := (cr (cl (cr (bodyOf Tryz.f37))))
noncomputable abbrev Defits_a0 : An := Defits_an.right.right.right
noncomputable abbrev Defits_a1 : An := Defits_an.right.right
noncomputable abbrev Defits_a2 : An := Defits_an.right.left.right
noncomputable abbrev Defits_K0 (k0 : St → Defits_R) : Ex → St → Defits_R := (kSeq k0 Defits_an.right (kFin Tryz.prog Defits_rs Tryz.f37))
abbrev Defits_t0 := (List D_api_Rule) × D_api_Era
def Defits_m0 (z : Defits_t0) : St := ⟨(.junk :: .v ⟨(.list T_api_Rule), z.1⟩ :: .v ⟨(.ptr 0 0 T_api_Era), ()⟩ :: jk 55 []), [some (.one ⟨T_api_Era, z.2⟩)]⟩
abbrev Defits_t1 := (List D_api_Rule) × Bool × D_api_Era
def Defits_m1 (z : Defits_t1) : St := ⟨(.junk :: .v ⟨(.list T_api_Rule), z.1⟩ :: .v ⟨(.ptr 0 0 T_api_Era), ()⟩ :: jk 33 (.v ⟨.bool, z.2.1⟩ :: jk 21 [])), [some (.one ⟨T_api_Era, z.2.2⟩)]⟩
abbrev Defits_t2 := (List D_api_Rule)
def Defits_m2 (z : Defits_t2) : St := ⟨(.junk :: .v ⟨(.list T_api_Rule), z⟩ :: jk 56 []), []⟩
def Defits_p2 (n : Nat) (z : Defits_t2) : Defits_R :=
  ((slices_ContainsFunc_api_Rule_api_Rule_Defits_1 n (z, ((), ())))).bind fun v5 =>
  some ((!v5.1), ())
def Defits_s2 (n : Nat) (z : Defits_t2) : Defits_R := Defits_p2 n z
theorem Defits_e2 (n : Nat) (rc : RC Defits_R) (z : Defits_t2) : codeR rc Tryz.prog Defits_sp n Defits_c0 Defits_a0 (Defits_m2 z) (kFin Tryz.prog Defits_rs Tryz.f37) = Defits_p2 n z := by kernel_rfl
theorem Defits_q2 (n : Nat) (z : Defits_t2) : codeK Tryz.prog Defits_sp n Defits_c0 Defits_a0 (Defits_m2 z) (kFin Tryz.prog Defits_rs Tryz.f37) = Defits_s2 n z := by
  rw [codeK_R, Defits_e2]
  rfl
def Defits_p0 (n : Nat) (k2 : Defits_t2 → Defits_R) (z : Defits_t0) : Defits_R :=
  bif z.2.2.2.2.2.2.1.1 then
    ((Declock n (z.2.2.2.2.2.2.1, ()))).bind fun v3 =>
    bif (!v3.2.1) then
      some (false, ())
    else
      ((Declocked n (z.2.2.2.2.2.2.1.2.2.2.2.1, ()))).bind fun v4 =>
      bif (!v4.1) then
        some (false, ())
      else
        k2 z.1
  else
    k2 z.1
def Defits_s0 (n : Nat) (z : Defits_t0) : Defits_R := Defits_p0 n (Defits_s2 n) z
theorem Defits_e0 (n : Nat) (rc : RC Defits_R) (z : Defits_t0) : codeR rc Tryz.prog Defits_sp n Defits_c1 Defits_a1 (Defits_m0 z) (kFin Tryz.prog Defits_rs Tryz.f37) = Defits_p0 n (fun y => rc Defits_c0 Defits_a0 (Defits_m2 y) (kFin Tryz.prog Defits_rs Tryz.f37)) z := by kernel_rfl
theorem Defits_q0 (n : Nat) (z : Defits_t0) : codeK Tryz.prog Defits_sp n Defits_c1 Defits_a1 (Defits_m0 z) (kFin Tryz.prog Defits_rs Tryz.f37) = Defits_s0 n z := by
  have h2 : (fun y => codeK Tryz.prog Defits_sp n Defits_c0 Defits_a0 (Defits_m2 y) (kFin Tryz.prog Defits_rs Tryz.f37)) = (Defits_s2 n) := funext fun y => by
    have := Defits_q2 n  y
    exact this
  rw [codeK_R, Defits_e0]
  rw [h2]
  rfl
def Defits_p1 (_n : Nat) (k0 : Defits_t0 → Defits_R) (z : Defits_t1) : Defits_R :=
  bif z.2.1 then
    some (false, ())
  else
    k0 (z.1, z.2.2)
def Defits_s1 (n : Nat) (k0 : Defits_t0 → Defits_R) (z : Defits_t1) : Defits_R := Defits_p1 n k0 z
theorem Defits_e1 (n : Nat) (k0 : St → Defits_R) (rc : RC Defits_R) (z : Defits_t1) : codeR rc Tryz.prog Defits_sp n Defits_c2 Defits_a2 (Defits_m1 z) (Defits_K0 k0) = Defits_p1 n (fun y => k0 (Defits_m0 y)) z := by kernel_rfl
theorem Defits_q1 (n : Nat) (k0 : St → Defits_R) (z : Defits_t1) : codeK Tryz.prog Defits_sp n Defits_c2 Defits_a2 (Defits_m1 z) (Defits_K0 k0) = Defits_s1 n (fun y => k0 (Defits_m0 y)) z := by
  rw [codeK_R, Defits_e1]
  rfl
def Defits_px (n : Nat) (k0 : Defits_t0 → Defits_R) (k1 : Defits_t1 → Defits_R) (x : (D_api_Era × ((List D_api_Rule) × Unit))) : Defits_R :=
  ((Dewithin n (x.1.1, ((86400 : Int), ())))).bind fun v1 =>
  bif (!v1.1) then
    k1 (x.2.1, true, x.1)
  else
    bif (decide (x.1.2.1 < 0)) then
      k1 (x.2.1, true, x.1)
    else
      bif (decide (x.1.2.1 > 2)) then
        k1 (x.2.1, true, x.1)
      else
        bif (x.1.2.1 == 1) then
          ((Dewithin n (x.1.2.2.1, ((86400 : Int), ())))).bind fun v2 =>
          bif (!v2.1) then
            k1 (x.2.1, true, x.1)
          else
            k1 (x.2.1, (decide ((List.length x.2.1 : Int) > 24)), x.1)
        else
          k1 (x.2.1, (decide ((List.length x.2.1 : Int) > 24)), x.1)
def Defits (n : Nat) (x : (D_api_Era × ((List D_api_Rule) × Unit))) : Defits_R := Defits_px n (Defits_s0 n) (Defits_s1 n (Defits_s0 n)) x
theorem Defits_ex (n : Nat) (rc : RC Defits_R) (x : (D_api_Era × ((List D_api_Rule) × Unit))) : codeR rc Tryz.prog Defits_sp n (bodyOf Tryz.f37) Defits_an (start Defits_ps x (Func.ntmps Tryz.f37)) (kFin Tryz.prog Defits_rs Tryz.f37) = Defits_px n (fun y => rc Defits_c1 Defits_a1 (Defits_m0 y) (kFin Tryz.prog Defits_rs Tryz.f37)) (fun y => rc Defits_c2 Defits_a2 (Defits_m1 y) (Defits_K0 (fun st => rc Defits_c1 Defits_a1 st (kFin Tryz.prog Defits_rs Tryz.f37)))) x := by kernel_rfl
theorem Defits_qx (n : Nat) (x : (D_api_Era × ((List D_api_Rule) × Unit))) : codeK Tryz.prog Defits_sp n (bodyOf Tryz.f37) Defits_an (start Defits_ps x (Func.ntmps Tryz.f37)) (kFin Tryz.prog Defits_rs Tryz.f37) = Defits n x := by
  have h0 : (fun y => codeK Tryz.prog Defits_sp n Defits_c1 Defits_a1 (Defits_m0 y) (kFin Tryz.prog Defits_rs Tryz.f37)) = (Defits_s0 n) := funext fun y => by
    have := Defits_q0 n  y
    exact this
  have h1 : (fun y => codeK Tryz.prog Defits_sp n Defits_c2 Defits_a2 (Defits_m1 y) (Defits_K0 (fun st => codeK Tryz.prog Defits_sp n Defits_c1 Defits_a1 st (kFin Tryz.prog Defits_rs Tryz.f37)))) = (Defits_s1 n (Defits_s0 n)) := funext fun y => by
    have := Defits_q1 n (fun st => codeK Tryz.prog Defits_sp n Defits_c1 Defits_a1 st (kFin Tryz.prog Defits_rs Tryz.f37)) y
    rw [h0] at this; exact this
  rw [codeK_R, Defits_ex]
  rw [h0]
  rw [h1]
  rfl
def Defits_spec : Sp := ⟨Defits_ps, Defits_rs, Defits⟩
theorem Defits_ok : SoundX Tryz.prog CX 37 (.f Defits_spec) := sound_of (look_cons Declock_ok (look_cons Dewithin_ok (look_cons Declocked_ok (look_cons slices_ContainsFunc_api_Rule_api_Rule_Defits_1_ok look_nil)))) Tryz.func37 (by kernel_rfl) rfl Defits_an Defits_spec rfl rfl Defits_qx

/-! ### noonmark/den.Right -/
abbrev DeRight_ps : Ty := (.pair T_A5Zone .unit)
abbrev DeRight_rs : Ty := (.pair (.int .i64) .unit)
def DeRight_sp : Specs := look [(22, .f DeEnd_spec), (37, .f Defits_spec)]
def DeRight_an : An := (.s .o (.s .o (.k [] [1,3] 1 (.k [] [1,3,24] 1 .o .o) (.k [] [1,3] 1 (.k [] [1,3,26,27,28] 1 .o (.b (.l [] [1,3,26,27,28] 1 .o))) (.k [] [1,3] 1 (.k [] [1,3,43,44,45] 1 .o (.b (.l [] [1,3,43,44,45] 1 .o))) (.k [] [] 0 (.k [] [1,61,62] 1 .o (.b (.l [] [1,61,62] 1 .o))) .o))))))
abbrev DeRight_R := Option (Int × Unit)
noncomputable abbrev DeRight_c0 : Code := (cr (cr (cr (cr (cr (cr (bodyOf Tryz.f20)))))))
noncomputable abbrev DeRight_c1 : Code := (cl (cl (cr (cl (cr (cr (cr (cr (cr (bodyOf Tryz.f20))))))))))
noncomputable abbrev DeRight_c2 : Code := (cr (cl (cr (cr (cr (cr (cr (bodyOf Tryz.f20))))))))
noncomputable abbrev DeRight_c3 : Code := (cr (cr (cr (cr (cr (bodyOf Tryz.f20))))))
noncomputable abbrev DeRight_c4 : Code := (cl (cl (cr (cl (cr (cr (cr (cr (bodyOf Tryz.f20)))))))))
noncomputable abbrev DeRight_c5 : Code := (cr (cl (cr (cr (cr (cr (bodyOf Tryz.f20)))))))
noncomputable abbrev DeRight_c6 : Code := (cr (cr (cr (cr (bodyOf Tryz.f20)))))
noncomputable abbrev DeRight_c7 : Code := (cl (cl (cr (cl (cr (cr (cr (bodyOf Tryz.f20))))))))
noncomputable abbrev DeRight_c8 : Code := (cr (cl (cr (cr (cr (bodyOf Tryz.f20))))))
noncomputable abbrev DeRight_c9 : Code := (cr (cr (cr (bodyOf Tryz.f20))))
noncomputable abbrev DeRight_c10 : Code := (cr (cl (cr (cr (bodyOf Tryz.f20)))))
noncomputable abbrev DeRight_a0 : An := DeRight_an.right.right.right.right.right.right
noncomputable abbrev DeRight_a1 : An := DeRight_an.right.right.right.right.right.left.right.left.left
noncomputable abbrev DeRight_a2 : An := DeRight_an.right.right.right.right.right
noncomputable abbrev DeRight_a3 : An := DeRight_an.right.right.right.right.right.left.right.left
noncomputable abbrev DeRight_a4 : An := DeRight_an.right.right.right.right.right.left.right
noncomputable abbrev DeRight_a5 : An := DeRight_an.right.right.right.right.left.right.left.left
noncomputable abbrev DeRight_a6 : An := DeRight_an.right.right.right.right
noncomputable abbrev DeRight_a7 : An := DeRight_an.right.right.right.right.left.right.left
noncomputable abbrev DeRight_a8 : An := DeRight_an.right.right.right.right.left.right
noncomputable abbrev DeRight_a9 : An := DeRight_an.right.right.right.left.right.left.left
noncomputable abbrev DeRight_a10 : An := DeRight_an.right.right.right
noncomputable abbrev DeRight_a11 : An := DeRight_an.right.right.right.left.right.left
noncomputable abbrev DeRight_a12 : An := DeRight_an.right.right.right.left.right
noncomputable abbrev DeRight_a13 : An := DeRight_an.right.right.left.right
noncomputable abbrev DeRight_a14 : An := DeRight_an.right.right
noncomputable abbrev DeRight_K0 (r10 k8 : St → DeRight_R) : Ex → St → DeRight_R := (kSeq r10 DeRight_a3 (kBlk 4 (kSeq k8 DeRight_a2 (kFin Tryz.prog DeRight_rs Tryz.f20))))
noncomputable abbrev DeRight_K1 (k8 : St → DeRight_R) : Ex → St → DeRight_R := (kSeq k8 DeRight_a2 (kFin Tryz.prog DeRight_rs Tryz.f20))
noncomputable abbrev DeRight_K2 (r7 k5 : St → DeRight_R) : Ex → St → DeRight_R := (kSeq r7 DeRight_a7 (kBlk 2 (kSeq k5 DeRight_a6 (kFin Tryz.prog DeRight_rs Tryz.f20))))
noncomputable abbrev DeRight_K3 (k5 : St → DeRight_R) : Ex → St → DeRight_R := (kSeq k5 DeRight_a6 (kFin Tryz.prog DeRight_rs Tryz.f20))
noncomputable abbrev DeRight_K4 (r4 k2 : St → DeRight_R) : Ex → St → DeRight_R := (kSeq r4 DeRight_a11 (kBlk 0 (kSeq k2 DeRight_a10 (kFin Tryz.prog DeRight_rs Tryz.f20))))
noncomputable abbrev DeRight_K5 (k2 : St → DeRight_R) : Ex → St → DeRight_R := (kSeq k2 DeRight_a10 (kFin Tryz.prog DeRight_rs Tryz.f20))
noncomputable abbrev DeRight_K6 (k0 : St → DeRight_R) : Ex → St → DeRight_R := (kSeq k0 DeRight_a14 (kFin Tryz.prog DeRight_rs Tryz.f20))
abbrev DeRight_t0 := Int × D_A5Zone
def DeRight_m0 (z : DeRight_t0) : St := ⟨(.junk :: .v ⟨(.ptr 0 0 T_A5Zone), ()⟩ :: .junk :: .v ⟨(.int .i64), z.1⟩ :: jk 70 []), [some (.one ⟨T_A5Zone, z.2⟩)]⟩
abbrev DeRight_t1 := Int × Bool × D_A5Zone
def DeRight_m1 (z : DeRight_t1) : St := ⟨(.junk :: .v ⟨(.ptr 0 0 T_A5Zone), ()⟩ :: .junk :: .v ⟨(.int .i64), z.1⟩ :: jk 20 (.v ⟨.bool, z.2.1⟩ :: jk 49 [])), [some (.one ⟨T_A5Zone, z.2.2⟩)]⟩
abbrev DeRight_t2 := Int × D_A5Zone
def DeRight_m2 (z : DeRight_t2) : St := ⟨(.junk :: .v ⟨(.ptr 0 0 T_A5Zone), ()⟩ :: .junk :: .v ⟨(.int .i64), z.1⟩ :: jk 70 []), [some (.one ⟨T_A5Zone, z.2⟩)]⟩
abbrev DeRight_t3 := Int × (List D_api_Era) × Int × Int × D_A5Zone
def DeRight_m3 (z : DeRight_t3) : St := ⟨(.junk :: .v ⟨(.ptr 0 0 T_A5Zone), ()⟩ :: .junk :: .v ⟨(.int .i64), z.1⟩ :: jk 22 (.v ⟨(.list T_api_Era), z.2.1⟩ :: .v ⟨(.int .i64), z.2.2.1⟩ :: .v ⟨(.int .i64), z.2.2.2.1⟩ :: jk 45 [])), [some (.one ⟨T_A5Zone, z.2.2.2.2⟩)]⟩
abbrev DeRight_t4 := Int × (List D_api_Era) × Int × Int × D_A5Zone
def DeRight_m4 (z : DeRight_t4) : St := ⟨(.junk :: .v ⟨(.ptr 0 0 T_A5Zone), ()⟩ :: .junk :: .v ⟨(.int .i64), z.1⟩ :: jk 22 (.v ⟨(.list T_api_Era), z.2.1⟩ :: .v ⟨(.int .i64), z.2.2.1⟩ :: .v ⟨(.int .i64), z.2.2.2.1⟩ :: jk 45 [])), [some (.one ⟨T_A5Zone, z.2.2.2.2⟩)]⟩
abbrev DeRight_t5 := Int × D_A5Zone
def DeRight_m5 (z : DeRight_t5) : St := ⟨(.junk :: .v ⟨(.ptr 0 0 T_A5Zone), ()⟩ :: .junk :: .v ⟨(.int .i64), z.1⟩ :: jk 70 []), [some (.one ⟨T_A5Zone, z.2⟩)]⟩
abbrev DeRight_t6 := Int × (List D_api_Era) × Int × Int × D_A5Zone
def DeRight_m6 (z : DeRight_t6) : St := ⟨(.junk :: .v ⟨(.ptr 0 0 T_A5Zone), ()⟩ :: .junk :: .v ⟨(.int .i64), z.1⟩ :: jk 39 (.v ⟨(.list T_api_Era), z.2.1⟩ :: .v ⟨(.int .i64), z.2.2.1⟩ :: .v ⟨(.int .i64), z.2.2.2.1⟩ :: jk 28 [])), [some (.one ⟨T_A5Zone, z.2.2.2.2⟩)]⟩
abbrev DeRight_t7 := Int × (List D_api_Era) × Int × Int × D_A5Zone
def DeRight_m7 (z : DeRight_t7) : St := ⟨(.junk :: .v ⟨(.ptr 0 0 T_A5Zone), ()⟩ :: .junk :: .v ⟨(.int .i64), z.1⟩ :: jk 39 (.v ⟨(.list T_api_Era), z.2.1⟩ :: .v ⟨(.int .i64), z.2.2.1⟩ :: .v ⟨(.int .i64), z.2.2.2.1⟩ :: jk 28 [])), [some (.one ⟨T_A5Zone, z.2.2.2.2⟩)]⟩
abbrev DeRight_t8 := Unit
def DeRight_m8 (_z : DeRight_t8) : St := ⟨(jk 74 []), []⟩
abbrev DeRight_t9 := Int × Int × D_A5Zone
def DeRight_m9 (z : DeRight_t9) : St := ⟨(.junk :: .v ⟨(.ptr 0 0 T_A5Zone), ()⟩ :: jk 59 (.v ⟨(.int .i64), z.1⟩ :: .v ⟨(.int .i64), z.2.1⟩ :: jk 11 [])), [some (.one ⟨T_A5Zone, z.2.2⟩)]⟩
abbrev DeRight_t10 := Int × Int × D_A5Zone
def DeRight_m10 (z : DeRight_t10) : St := ⟨(.junk :: .v ⟨(.ptr 0 0 T_A5Zone), ()⟩ :: jk 59 (.v ⟨(.int .i64), z.1⟩ :: .v ⟨(.int .i64), z.2.1⟩ :: jk 11 [])), [some (.one ⟨T_A5Zone, z.2.2⟩)]⟩
def DeRight_p8 (_n : Nat) (_z : DeRight_t8) : DeRight_R :=
  some ((0 : Int), ())
def DeRight_s8 (n : Nat) (z : DeRight_t8) : DeRight_R := DeRight_p8 n z
theorem DeRight_e8 (n : Nat) (rc : RC DeRight_R) (z : DeRight_t8) : codeR rc Tryz.prog DeRight_sp n DeRight_c0 DeRight_a0 (DeRight_m8 z) (kFin Tryz.prog DeRight_rs Tryz.f20) = DeRight_p8 n z := by kernel_rfl
theorem DeRight_q8 (n : Nat) (z : DeRight_t8) : codeK Tryz.prog DeRight_sp n DeRight_c0 DeRight_a0 (DeRight_m8 z) (kFin Tryz.prog DeRight_rs Tryz.f20) = DeRight_s8 n z := by
  rw [codeK_R, DeRight_e8]
  rfl
def DeRight_p10 (n : Nat) (k8 : DeRight_t8 → DeRight_R) (r10 : DeRight_t10 → DeRight_R) (z : DeRight_t10) : DeRight_R :=
  bif (decide (z.2.1 < z.1)) then
    ((DeEnd n (z.2.2, (z.2.1, ())))).bind fun v10 =>
    ((DeEnd n (z.2.2, ((w64 (z.2.1 + 1)), ())))).bind fun v12 =>
    bif (decide (v10.1 ≥ v12.1)) then
      some ((14 : Int), ())
    else
      r10 (z.1, (w64 (z.2.1 + 1)), z.2.2)
  else
    k8 ()
def DeRight_s10 (n : Nat) (k8 : DeRight_t8 → DeRight_R) (r10 : DeRight_t10 → DeRight_R) (z : DeRight_t10) : DeRight_R := DeRight_p10 n k8 r10 z
theorem DeRight_e10 (n : Nat) (k8 : St → DeRight_R) (r10 : St → DeRight_R) (rc : RC DeRight_R) (z : DeRight_t10) : codeR rc Tryz.prog DeRight_sp n DeRight_c1 DeRight_a1 (DeRight_m10 z) (DeRight_K0 r10 k8) = DeRight_p10 n (fun y => k8 (DeRight_m8 y)) (fun y => r10 (DeRight_m10 y)) z := by kernel_rfl
theorem DeRight_q10 (n : Nat) (k8 : St → DeRight_R) (r10 : St → DeRight_R) (z : DeRight_t10) : codeK Tryz.prog DeRight_sp n DeRight_c1 DeRight_a1 (DeRight_m10 z) (DeRight_K0 r10 k8) = DeRight_s10 n (fun y => k8 (DeRight_m8 y)) (fun y => r10 (DeRight_m10 y)) z := by
  rw [codeK_R, DeRight_e10]
  rfl
def DeRight_s9 (n : Nat) (k8 : DeRight_t8 → DeRight_R) (z : DeRight_t9) : DeRight_R :=
  rounds (fun r10 x' => DeRight_s10 n k8 r10 x') n (z.1, z.2.1, z.2.2)
theorem DeRight_q9 (n : Nat) (k8 : St → DeRight_R) (z : DeRight_t9) : codeK Tryz.prog DeRight_sp n DeRight_c2 DeRight_a4 (DeRight_m9 z) (DeRight_K1 k8) = DeRight_s9 n (fun y => k8 (DeRight_m8 y)) z :=
  Eq.trans (b := rounds (fun r10 st => codeK Tryz.prog DeRight_sp n DeRight_c1 DeRight_a1 st (DeRight_K0 r10 k8)) n (DeRight_m10 (z.1, z.2.1, z.2.2))) (by kernel_rfl) (rounds_mk DeRight_m10 (fun r10 x' => by
    have := (DeRight_q10 n k8 r10 x')
    exact this) n _)
def DeRight_p5 (_n : Nat) (k8 : DeRight_t8 → DeRight_R) (k9 : DeRight_t9 → DeRight_R) (z : DeRight_t5) : DeRight_R :=
  k9 ((imax (w64 (z.1 - 2)) (0 : Int)), (0 : Int), z.2)
def DeRight_s5 (n : Nat) (z : DeRight_t5) : DeRight_R := DeRight_p5 n (DeRight_s8 n) (DeRight_s9 n (DeRight_s8 n)) z
theorem DeRight_e5 (n : Nat) (rc : RC DeRight_R) (z : DeRight_t5) : codeR rc Tryz.prog DeRight_sp n DeRight_c3 DeRight_a2 (DeRight_m5 z) (kFin Tryz.prog DeRight_rs Tryz.f20) = DeRight_p5 n (fun y => rc DeRight_c0 DeRight_a0 (DeRight_m8 y) (kFin Tryz.prog DeRight_rs Tryz.f20)) (fun y => rc DeRight_c2 DeRight_a4 (DeRight_m9 y) (DeRight_K1 (fun st => rc DeRight_c0 DeRight_a0 st (kFin Tryz.prog DeRight_rs Tryz.f20)))) z := by kernel_rfl
theorem DeRight_q5 (n : Nat) (z : DeRight_t5) : codeK Tryz.prog DeRight_sp n DeRight_c3 DeRight_a2 (DeRight_m5 z) (kFin Tryz.prog DeRight_rs Tryz.f20) = DeRight_s5 n z := by
  have h8 : (fun y => codeK Tryz.prog DeRight_sp n DeRight_c0 DeRight_a0 (DeRight_m8 y) (kFin Tryz.prog DeRight_rs Tryz.f20)) = (DeRight_s8 n) := funext fun y => by
    have := DeRight_q8 n  y
    exact this
  have h9 : (fun y => codeK Tryz.prog DeRight_sp n DeRight_c2 DeRight_a4 (DeRight_m9 y) (DeRight_K1 (fun st => codeK Tryz.prog DeRight_sp n DeRight_c0 DeRight_a0 st (kFin Tryz.prog DeRight_rs Tryz.f20)))) = (DeRight_s9 n (DeRight_s8 n)) := funext fun y => by
    have := DeRight_q9 n (fun st => codeK Tryz.prog DeRight_sp n DeRight_c0 DeRight_a0 st (kFin Tryz.prog DeRight_rs Tryz.f20)) y
    rw [h8] at this; exact this
  rw [codeK_R, DeRight_e5]
  rw [h8]
  rw [h9]
  rfl
def DeRight_p7 (_n : Nat) (k5 : DeRight_t5 → DeRight_R) (r7 : DeRight_t7 → DeRight_R) (z : DeRight_t7) : DeRight_R :=
  bif (decide (z.2.2.2.1 < z.2.2.1)) then
    bif decide (0 ≤ z.2.2.2.1) then
      ((z.2.1[Int.toNat z.2.2.2.1]?)).bind fun e5 =>
      bif (e5.2.2.2.2.2.1.1 == (z.2.2.2.1 == (w64 (z.1 - 1)))) then
        some ((21 : Int), ())
      else
        r7 (z.1, z.2.1, z.2.2.1, (w64 (z.2.2.2.1 + 1)), z.2.2.2.2)
    else none
  else
    k5 (z.1, z.2.2.2.2)
def DeRight_s7 (n : Nat) (k5 : DeRight_t5 → DeRight_R) (r7 : DeRight_t7 → DeRight_R) (z : DeRight_t7) : DeRight_R := DeRight_p7 n k5 r7 z
theorem DeRight_e7 (n : Nat) (k5 : St → DeRight_R) (r7 : St → DeRight_R) (rc : RC DeRight_R) (z : DeRight_t7) : codeR rc Tryz.prog DeRight_sp n DeRight_c4 DeRight_a5 (DeRight_m7 z) (DeRight_K2 r7 k5) = DeRight_p7 n (fun y => k5 (DeRight_m5 y)) (fun y => r7 (DeRight_m7 y)) z := by kernel_rfl
theorem DeRight_q7 (n : Nat) (k5 : St → DeRight_R) (r7 : St → DeRight_R) (z : DeRight_t7) : codeK Tryz.prog DeRight_sp n DeRight_c4 DeRight_a5 (DeRight_m7 z) (DeRight_K2 r7 k5) = DeRight_s7 n (fun y => k5 (DeRight_m5 y)) (fun y => r7 (DeRight_m7 y)) z := by
  rw [codeK_R, DeRight_e7]
  rfl
def DeRight_s6 (n : Nat) (k5 : DeRight_t5 → DeRight_R) (z : DeRight_t6) : DeRight_R :=
  rounds (fun r7 x' => DeRight_s7 n k5 r7 x') n (z.1, z.2.1, z.2.2.1, z.2.2.2.1, z.2.2.2.2)
theorem DeRight_q6 (n : Nat) (k5 : St → DeRight_R) (z : DeRight_t6) : codeK Tryz.prog DeRight_sp n DeRight_c5 DeRight_a8 (DeRight_m6 z) (DeRight_K3 k5) = DeRight_s6 n (fun y => k5 (DeRight_m5 y)) z :=
  Eq.trans (b := rounds (fun r7 st => codeK Tryz.prog DeRight_sp n DeRight_c4 DeRight_a5 st (DeRight_K2 r7 k5)) n (DeRight_m7 (z.1, z.2.1, z.2.2.1, z.2.2.2.1, z.2.2.2.2))) (by kernel_rfl) (rounds_mk DeRight_m7 (fun r7 x' => by
    have := (DeRight_q7 n k5 r7 x')
    exact this) n _)
def DeRight_p2 (_n : Nat) (k5 : DeRight_t5 → DeRight_R) (k6 : DeRight_t6 → DeRight_R) (z : DeRight_t2) : DeRight_R :=
  k6 (z.1, z.2.1, (List.length z.2.1 : Int), (0 : Int), z.2)
def DeRight_s2 (n : Nat) (z : DeRight_t2) : DeRight_R := DeRight_p2 n (DeRight_s5 n) (DeRight_s6 n (DeRight_s5 n)) z
theorem DeRight_e2 (n : Nat) (rc : RC DeRight_R) (z : DeRight_t2) : codeR rc Tryz.prog DeRight_sp n DeRight_c6 DeRight_a6 (DeRight_m2 z) (kFin Tryz.prog DeRight_rs Tryz.f20) = DeRight_p2 n (fun y => rc DeRight_c3 DeRight_a2 (DeRight_m5 y) (kFin Tryz.prog DeRight_rs Tryz.f20)) (fun y => rc DeRight_c5 DeRight_a8 (DeRight_m6 y) (DeRight_K3 (fun st => rc DeRight_c3 DeRight_a2 st (kFin Tryz.prog DeRight_rs Tryz.f20)))) z := by kernel_rfl
theorem DeRight_q2 (n : Nat) (z : DeRight_t2) : codeK Tryz.prog DeRight_sp n DeRight_c6 DeRight_a6 (DeRight_m2 z) (kFin Tryz.prog DeRight_rs Tryz.f20) = DeRight_s2 n z := by
  have h5 : (fun y => codeK Tryz.prog DeRight_sp n DeRight_c3 DeRight_a2 (DeRight_m5 y) (kFin Tryz.prog DeRight_rs Tryz.f20)) = (DeRight_s5 n) := funext fun y => by
    have := DeRight_q5 n  y
    exact this
  have h6 : (fun y => codeK Tryz.prog DeRight_sp n DeRight_c5 DeRight_a8 (DeRight_m6 y) (DeRight_K3 (fun st => codeK Tryz.prog DeRight_sp n DeRight_c3 DeRight_a2 st (kFin Tryz.prog DeRight_rs Tryz.f20)))) = (DeRight_s6 n (DeRight_s5 n)) := funext fun y => by
    have := DeRight_q6 n (fun st => codeK Tryz.prog DeRight_sp n DeRight_c3 DeRight_a2 st (kFin Tryz.prog DeRight_rs Tryz.f20)) y
    rw [h5] at this; exact this
  rw [codeK_R, DeRight_e2]
  rw [h5]
  rw [h6]
  rfl
def DeRight_p4 (n : Nat) (k2 : DeRight_t2 → DeRight_R) (r4 : DeRight_t4 → DeRight_R) (z : DeRight_t4) : DeRight_R :=
  bif (decide (z.2.2.2.1 < z.2.2.1)) then
    bif decide (0 ≤ z.2.2.2.1) then
      ((z.2.1[Int.toNat z.2.2.2.1]?)).bind fun e1 =>
      bif decide (0 ≤ z.2.2.2.1) then
        ((z.2.2.2.2.2.1[Int.toNat z.2.2.2.1]?)).bind fun e2 =>
        ((Defits n (e1, (e2, ())))).bind fun v3 =>
        bif (!v3.1) then
          some ((1 : Int), ())
        else
          r4 (z.1, z.2.1, z.2.2.1, (w64 (z.2.2.2.1 + 1)), z.2.2.2.2)
      else none
    else none
  else
    k2 (z.1, z.2.2.2.2)
def DeRight_s4 (n : Nat) (k2 : DeRight_t2 → DeRight_R) (r4 : DeRight_t4 → DeRight_R) (z : DeRight_t4) : DeRight_R := DeRight_p4 n k2 r4 z
theorem DeRight_e4 (n : Nat) (k2 : St → DeRight_R) (r4 : St → DeRight_R) (rc : RC DeRight_R) (z : DeRight_t4) : codeR rc Tryz.prog DeRight_sp n DeRight_c7 DeRight_a9 (DeRight_m4 z) (DeRight_K4 r4 k2) = DeRight_p4 n (fun y => k2 (DeRight_m2 y)) (fun y => r4 (DeRight_m4 y)) z := by kernel_rfl
theorem DeRight_q4 (n : Nat) (k2 : St → DeRight_R) (r4 : St → DeRight_R) (z : DeRight_t4) : codeK Tryz.prog DeRight_sp n DeRight_c7 DeRight_a9 (DeRight_m4 z) (DeRight_K4 r4 k2) = DeRight_s4 n (fun y => k2 (DeRight_m2 y)) (fun y => r4 (DeRight_m4 y)) z := by
  rw [codeK_R, DeRight_e4]
  rfl
def DeRight_s3 (n : Nat) (k2 : DeRight_t2 → DeRight_R) (z : DeRight_t3) : DeRight_R :=
  rounds (fun r4 x' => DeRight_s4 n k2 r4 x') n (z.1, z.2.1, z.2.2.1, z.2.2.2.1, z.2.2.2.2)
theorem DeRight_q3 (n : Nat) (k2 : St → DeRight_R) (z : DeRight_t3) : codeK Tryz.prog DeRight_sp n DeRight_c8 DeRight_a12 (DeRight_m3 z) (DeRight_K5 k2) = DeRight_s3 n (fun y => k2 (DeRight_m2 y)) z :=
  Eq.trans (b := rounds (fun r4 st => codeK Tryz.prog DeRight_sp n DeRight_c7 DeRight_a9 st (DeRight_K4 r4 k2)) n (DeRight_m4 (z.1, z.2.1, z.2.2.1, z.2.2.2.1, z.2.2.2.2))) (by kernel_rfl) (rounds_mk DeRight_m4 (fun r4 x' => by
    have := (DeRight_q4 n k2 r4 x')
    exact this) n _)
def DeRight_p0 (_n : Nat) (k2 : DeRight_t2 → DeRight_R) (k3 : DeRight_t3 → DeRight_R) (z : DeRight_t0) : DeRight_R :=
  k3 (z.1, z.2.1, (List.length z.2.1 : Int), (0 : Int), z.2)
def DeRight_s0 (n : Nat) (z : DeRight_t0) : DeRight_R := DeRight_p0 n (DeRight_s2 n) (DeRight_s3 n (DeRight_s2 n)) z
theorem DeRight_e0 (n : Nat) (rc : RC DeRight_R) (z : DeRight_t0) : codeR rc Tryz.prog DeRight_sp n DeRight_c9 DeRight_a10 (DeRight_m0 z) (kFin Tryz.prog DeRight_rs Tryz.f20) = DeRight_p0 n (fun y => rc DeRight_c6 DeRight_a6 (DeRight_m2 y) (kFin Tryz.prog DeRight_rs Tryz.f20)) (fun y => rc DeRight_c8 DeRight_a12 (DeRight_m3 y) (DeRight_K5 (fun st => rc DeRight_c6 DeRight_a6 st (kFin Tryz.prog DeRight_rs Tryz.f20)))) z := by kernel_rfl
theorem DeRight_q0 (n : Nat) (z : DeRight_t0) : codeK Tryz.prog DeRight_sp n DeRight_c9 DeRight_a10 (DeRight_m0 z) (kFin Tryz.prog DeRight_rs Tryz.f20) = DeRight_s0 n z := by
  have h2 : (fun y => codeK Tryz.prog DeRight_sp n DeRight_c6 DeRight_a6 (DeRight_m2 y) (kFin Tryz.prog DeRight_rs Tryz.f20)) = (DeRight_s2 n) := funext fun y => by
    have := DeRight_q2 n  y
    exact this
  have h3 : (fun y => codeK Tryz.prog DeRight_sp n DeRight_c8 DeRight_a12 (DeRight_m3 y) (DeRight_K5 (fun st => codeK Tryz.prog DeRight_sp n DeRight_c6 DeRight_a6 st (kFin Tryz.prog DeRight_rs Tryz.f20)))) = (DeRight_s3 n (DeRight_s2 n)) := funext fun y => by
    have := DeRight_q3 n (fun st => codeK Tryz.prog DeRight_sp n DeRight_c6 DeRight_a6 st (kFin Tryz.prog DeRight_rs Tryz.f20)) y
    rw [h2] at this; exact this
  rw [codeK_R, DeRight_e0]
  rw [h2]
  rw [h3]
  rfl
def DeRight_p1 (_n : Nat) (k0 : DeRight_t0 → DeRight_R) (z : DeRight_t1) : DeRight_R :=
  bif z.2.1 then
    some ((1 : Int), ())
  else
    k0 (z.1, z.2.2)
def DeRight_s1 (n : Nat) (k0 : DeRight_t0 → DeRight_R) (z : DeRight_t1) : DeRight_R := DeRight_p1 n k0 z
theorem DeRight_e1 (n : Nat) (k0 : St → DeRight_R) (rc : RC DeRight_R) (z : DeRight_t1) : codeR rc Tryz.prog DeRight_sp n DeRight_c10 DeRight_a13 (DeRight_m1 z) (DeRight_K6 k0) = DeRight_p1 n (fun y => k0 (DeRight_m0 y)) z := by kernel_rfl
theorem DeRight_q1 (n : Nat) (k0 : St → DeRight_R) (z : DeRight_t1) : codeK Tryz.prog DeRight_sp n DeRight_c10 DeRight_a13 (DeRight_m1 z) (DeRight_K6 k0) = DeRight_s1 n (fun y => k0 (DeRight_m0 y)) z := by
  rw [codeK_R, DeRight_e1]
  rfl
def DeRight_px (_n : Nat) (k0 : DeRight_t0 → DeRight_R) (k1 : DeRight_t1 → DeRight_R) (x : (D_A5Zone × Unit)) : DeRight_R :=
  bif ((List.length x.1.1 : Int) == 0) then
    k1 ((List.length x.1.1 : Int), true, x.1)
  else
    bif (decide ((List.length x.1.1 : Int) > 8)) then
      k1 ((List.length x.1.1 : Int), true, x.1)
    else
      k1 ((List.length x.1.1 : Int), ((List.length x.1.2.1 : Int) != (List.length x.1.1 : Int)), x.1)
def DeRight (n : Nat) (x : (D_A5Zone × Unit)) : DeRight_R := DeRight_px n (DeRight_s0 n) (DeRight_s1 n (DeRight_s0 n)) x
theorem DeRight_ex (n : Nat) (rc : RC DeRight_R) (x : (D_A5Zone × Unit)) : codeR rc Tryz.prog DeRight_sp n (bodyOf Tryz.f20) DeRight_an (start DeRight_ps x (Func.ntmps Tryz.f20)) (kFin Tryz.prog DeRight_rs Tryz.f20) = DeRight_px n (fun y => rc DeRight_c9 DeRight_a10 (DeRight_m0 y) (kFin Tryz.prog DeRight_rs Tryz.f20)) (fun y => rc DeRight_c10 DeRight_a13 (DeRight_m1 y) (DeRight_K6 (fun st => rc DeRight_c9 DeRight_a10 st (kFin Tryz.prog DeRight_rs Tryz.f20)))) x := by kernel_rfl
theorem DeRight_qx (n : Nat) (x : (D_A5Zone × Unit)) : codeK Tryz.prog DeRight_sp n (bodyOf Tryz.f20) DeRight_an (start DeRight_ps x (Func.ntmps Tryz.f20)) (kFin Tryz.prog DeRight_rs Tryz.f20) = DeRight n x := by
  have h0 : (fun y => codeK Tryz.prog DeRight_sp n DeRight_c9 DeRight_a10 (DeRight_m0 y) (kFin Tryz.prog DeRight_rs Tryz.f20)) = (DeRight_s0 n) := funext fun y => by
    have := DeRight_q0 n  y
    exact this
  have h1 : (fun y => codeK Tryz.prog DeRight_sp n DeRight_c10 DeRight_a13 (DeRight_m1 y) (DeRight_K6 (fun st => codeK Tryz.prog DeRight_sp n DeRight_c9 DeRight_a10 st (kFin Tryz.prog DeRight_rs Tryz.f20)))) = (DeRight_s1 n (DeRight_s0 n)) := funext fun y => by
    have := DeRight_q1 n (fun st => codeK Tryz.prog DeRight_sp n DeRight_c9 DeRight_a10 st (kFin Tryz.prog DeRight_rs Tryz.f20)) y
    rw [h0] at this; exact this
  rw [codeK_R, DeRight_ex]
  rw [h0]
  rw [h1]
  rfl
def DeRight_spec : Sp := ⟨DeRight_ps, DeRight_rs, DeRight⟩
theorem DeRight_ok : SoundX Tryz.prog CX 20 (.f DeRight_spec) := sound_of (look_cons DeEnd_ok (look_cons Defits_ok look_nil)) Tryz.func20 (by kernel_rfl) rfl DeRight_an DeRight_spec rfl rfl DeRight_qx

/-! ### noonmark/den.At -/
abbrev DeAt_ps : Ty := (.pair T_A5Zone (.pair (.int .i64) .unit))
abbrev DeAt_rs : Ty := (.pair T_DeState (.pair (.int .i64) .unit))
def DeAt_sp : Specs := look [(20, .f DeRight_spec), (21, .f Deyear_spec), (22, .f DeEnd_spec), (23, .f DeZone_saving_spec)]
def DeAt_an : An := (.s .o (.s .o (.s .o (.k [] [1,2,4,9] 2 .o (.k [] [1,2,4,9] 2 (.b (.l [] [1,2,4,9] 2 .o)) .o)))))
abbrev DeAt_R := Option (D_DeState × (Int × Unit))
noncomputable abbrev DeAt_c0 : Code := (cl (cl (cl (cr (cr (cr (cr (bodyOf Tryz.f11))))))))
noncomputable abbrev DeAt_c1 : Code := (cr (cr (cr (cr (cr (bodyOf Tryz.f11))))))
noncomputable abbrev DeAt_c2 : Code := (cr (cr (cr (cr (bodyOf Tryz.f11)))))
noncomputable abbrev DeAt_a0 : An := DeAt_an.right.right.right.right.left.left.left
noncomputable abbrev DeAt_a1 : An := DeAt_an.right.right.right.right
noncomputable abbrev DeAt_a2 : An := DeAt_an.right.right.right.right.left.left
noncomputable abbrev DeAt_a3 : An := DeAt_an.right.right.right.right.right
noncomputable abbrev DeAt_K0 (r2 k1 : St → DeAt_R) : Ex → St → DeAt_R := (kSeq r2 DeAt_a2 (kBlk 0 (kSeq k1 DeAt_a1 (kFin Tryz.prog DeAt_rs Tryz.f11))))
abbrev DeAt_t0 := Int × Int × D_A5Zone × D_DeState
def DeAt_m0 (z : DeAt_t0) : St := ⟨(.junk :: .v ⟨(.int .i64), z.1⟩ :: .v ⟨(.ptr 0 0 T_A5Zone), ()⟩ :: .junk :: .v ⟨(.ptr 1 0 T_DeState), ()⟩ :: jk 4 (.v ⟨(.int .i64), z.2.1⟩ :: jk 40 [])), [some (.one ⟨T_A5Zone, z.2.2.1⟩), some (.one ⟨T_DeState, z.2.2.2⟩)]⟩
abbrev DeAt_t1 := Int × Int × D_A5Zone × D_DeState
def DeAt_m1 (z : DeAt_t1) : St := ⟨(.junk :: .v ⟨(.int .i64), z.1⟩ :: .v ⟨(.ptr 0 0 T_A5Zone), ()⟩ :: .junk :: .v ⟨(.ptr 1 0 T_DeState), ()⟩ :: jk 4 (.v ⟨(.int .i64), z.2.1⟩ :: jk 40 [])), [some (.one ⟨T_A5Zone, z.2.2.1⟩), some (.one ⟨T_DeState, z.2.2.2⟩)]⟩
abbrev DeAt_t2 := Int × Int × D_A5Zone × D_DeState
def DeAt_m2 (z : DeAt_t2) : St := ⟨(.junk :: .v ⟨(.int .i64), z.1⟩ :: .v ⟨(.ptr 0 0 T_A5Zone), ()⟩ :: .junk :: .v ⟨(.ptr 1 0 T_DeState), ()⟩ :: jk 4 (.v ⟨(.int .i64), z.2.1⟩ :: jk 40 [])), [some (.one ⟨T_A5Zone, z.2.2.1⟩), some (.one ⟨T_DeState, z.2.2.2⟩)]⟩
def DeAt_p2 (n : Nat) (k1 : DeAt_t1 → DeAt_R) (r2 : DeAt_t2 → DeAt_R) (z : DeAt_t2) : DeAt_R :=
  bif (decide (z.2.1 < (w64 ((List.length z.2.2.1.1 : Int) - 1)))) then
    ((DeEnd n (z.2.2.1, (z.2.1, ())))).bind fun v4 =>
    bif (decide (z.1 < v4.1)) then
      k1 (z.1, z.2.1, z.2.2.1, z.2.2.2)
    else
      r2 (z.1, (w64 (z.2.1 + 1)), z.2.2.1, z.2.2.2)
  else
    k1 (z.1, z.2.1, z.2.2.1, z.2.2.2)
def DeAt_s2 (n : Nat) (k1 : DeAt_t1 → DeAt_R) (r2 : DeAt_t2 → DeAt_R) (z : DeAt_t2) : DeAt_R := DeAt_p2 n k1 r2 z
theorem DeAt_e2 (n : Nat) (k1 : St → DeAt_R) (r2 : St → DeAt_R) (rc : RC DeAt_R) (z : DeAt_t2) : codeR rc Tryz.prog DeAt_sp n DeAt_c0 DeAt_a0 (DeAt_m2 z) (DeAt_K0 r2 k1) = DeAt_p2 n (fun y => k1 (DeAt_m1 y)) (fun y => r2 (DeAt_m2 y)) z := by kernel_rfl
theorem DeAt_q2 (n : Nat) (k1 : St → DeAt_R) (r2 : St → DeAt_R) (z : DeAt_t2) : codeK Tryz.prog DeAt_sp n DeAt_c0 DeAt_a0 (DeAt_m2 z) (DeAt_K0 r2 k1) = DeAt_s2 n (fun y => k1 (DeAt_m1 y)) (fun y => r2 (DeAt_m2 y)) z := by
  rw [codeK_R, DeAt_e2]
  rfl
def DeAt_p1 (n : Nat) (z : DeAt_t1) : DeAt_R :=
  ((DeZone_saving n (z.2.2.1, (z.2.1, (z.1, ()))))).bind fun v6 =>
  some ((z.2.1, (v6.1, (v6.2.1, ()))), ((0 : Int), ()))
def DeAt_s1 (n : Nat) (z : DeAt_t1) : DeAt_R := DeAt_p1 n z
theorem DeAt_e1 (n : Nat) (rc : RC DeAt_R) (z : DeAt_t1) : codeR rc Tryz.prog DeAt_sp n DeAt_c1 DeAt_a3 (DeAt_m1 z) (kFin Tryz.prog DeAt_rs Tryz.f11) = DeAt_p1 n z := by kernel_rfl
theorem DeAt_q1 (n : Nat) (z : DeAt_t1) : codeK Tryz.prog DeAt_sp n DeAt_c1 DeAt_a3 (DeAt_m1 z) (kFin Tryz.prog DeAt_rs Tryz.f11) = DeAt_s1 n z := by
  rw [codeK_R, DeAt_e1]
  rfl
def DeAt_s0 (n : Nat) (z : DeAt_t0) : DeAt_R :=
  rounds (fun r2 x' => DeAt_s2 n (DeAt_s1 n) r2 x') n (z.1, z.2.1, z.2.2.1, z.2.2.2)
theorem DeAt_q0 (n : Nat) (z : DeAt_t0) : codeK Tryz.prog DeAt_sp n DeAt_c2 DeAt_a1 (DeAt_m0 z) (kFin Tryz.prog DeAt_rs Tryz.f11) = DeAt_s0 n z :=
  Eq.trans (b := rounds (fun r2 st => codeK Tryz.prog DeAt_sp n DeAt_c0 DeAt_a0 st (DeAt_K0 r2 (fun st => codeK Tryz.prog DeAt_sp n DeAt_c1 DeAt_a3 st (kFin Tryz.prog DeAt_rs Tryz.f11)))) n (DeAt_m2 (z.1, z.2.1, z.2.2.1, z.2.2.2))) (by kernel_rfl) (rounds_mk DeAt_m2 (fun r2 x' => by
    have h1 : (fun y => codeK Tryz.prog DeAt_sp n DeAt_c1 DeAt_a3 (DeAt_m1 y) (kFin Tryz.prog DeAt_rs Tryz.f11)) = (DeAt_s1 n) := funext fun y => by
      have := DeAt_q1 n  y
      exact this
    have := (DeAt_q2 n (fun st => codeK Tryz.prog DeAt_sp n DeAt_c1 DeAt_a3 st (kFin Tryz.prog DeAt_rs Tryz.f11)) r2 x')
    rw [h1] at this
    exact this) n _)
def DeAt_px (n : Nat) (k0 : DeAt_t0 → DeAt_R) (x : (D_A5Zone × (Int × Unit))) : DeAt_R :=
  ((DeRight n (x.1, ()))).bind fun v1 =>
  bif (v1.1 != 0) then
    some (((0 : Int), ((0 : Int), ((⟨#[]⟩ : ByteArray), ()))), (v1.1, ()))
  else
    ((Deyear n (x.2.1, ()))).bind fun v2 =>
    bif (!v2.2.1) then
      some (((0 : Int), ((0 : Int), ((⟨#[]⟩ : ByteArray), ()))), ((2 : Int), ()))
    else
      k0 (x.2.1, (0 : Int), x.1, ((0 : Int), ((0 : Int), ((⟨#[]⟩ : ByteArray), ()))))
def DeAt (n : Nat) (x : (D_A5Zone × (Int × Unit))) : DeAt_R := DeAt_px n (DeAt_s0 n) x
theorem DeAt_ex (n : Nat) (rc : RC DeAt_R) (x : (D_A5Zone × (Int × Unit))) : codeR rc Tryz.prog DeAt_sp n (bodyOf Tryz.f11) DeAt_an (start DeAt_ps x (Func.ntmps Tryz.f11)) (kFin Tryz.prog DeAt_rs Tryz.f11) = DeAt_px n (fun y => rc DeAt_c2 DeAt_a1 (DeAt_m0 y) (kFin Tryz.prog DeAt_rs Tryz.f11)) x := by kernel_rfl
theorem DeAt_qx (n : Nat) (x : (D_A5Zone × (Int × Unit))) : codeK Tryz.prog DeAt_sp n (bodyOf Tryz.f11) DeAt_an (start DeAt_ps x (Func.ntmps Tryz.f11)) (kFin Tryz.prog DeAt_rs Tryz.f11) = DeAt n x := by
  have h0 : (fun y => codeK Tryz.prog DeAt_sp n DeAt_c2 DeAt_a1 (DeAt_m0 y) (kFin Tryz.prog DeAt_rs Tryz.f11)) = (DeAt_s0 n) := funext fun y => by
    have := DeAt_q0 n  y
    exact this
  rw [codeK_R, DeAt_ex]
  rw [h0]
  rfl
def DeAt_spec : Sp := ⟨DeAt_ps, DeAt_rs, DeAt⟩
theorem DeAt_ok : SoundX Tryz.prog CX 11 (.f DeAt_spec) := sound_of (look_cons DeRight_ok (look_cons Deyear_ok (look_cons DeEnd_ok (look_cons DeZone_saving_ok look_nil)))) Tryz.func11 (by kernel_rfl) rfl DeAt_an DeAt_spec rfl rfl DeAt_qx

/-! ### noonmark/noonmarklaw15.Own -/
abbrev B5Own_ps : Ty := (.pair T_A5Zone .unit)
abbrev B5Own_rs : Ty := (.pair T_A5Zone .unit)
def B5Own_sp : Specs := look []
def B5Own_an : An := .o
abbrev B5Own_R := Option (D_A5Zone × Unit)

def B5Own_px (_n : Nat) (x : (D_A5Zone × Unit)) : B5Own_R :=
  some ((x.1.1, (x.1.2.1, ())), ())
def B5Own (n : Nat) (x : (D_A5Zone × Unit)) : B5Own_R := B5Own_px n x
theorem B5Own_ex (n : Nat) (rc : RC B5Own_R) (x : (D_A5Zone × Unit)) : codeR rc Tryz.prog B5Own_sp n (bodyOf Tryz.f7) B5Own_an (start B5Own_ps x (Func.ntmps Tryz.f7)) (kFin Tryz.prog B5Own_rs Tryz.f7) = B5Own_px n x := by kernel_rfl
theorem B5Own_qx (n : Nat) (x : (D_A5Zone × Unit)) : codeK Tryz.prog B5Own_sp n (bodyOf Tryz.f7) B5Own_an (start B5Own_ps x (Func.ntmps Tryz.f7)) (kFin Tryz.prog B5Own_rs Tryz.f7) = B5Own n x := by
  rw [codeK_R, B5Own_ex]
  rfl
def B5Own_spec : Sp := ⟨B5Own_ps, B5Own_rs, B5Own⟩
theorem B5Own_ok : SoundX Tryz.prog CX 7 (.f B5Own_spec) := sound_of look_nil Tryz.func7 (by kernel_rfl) rfl B5Own_an B5Own_spec rfl rfl B5Own_qx
end Go.Proofs.YtadamegddcadcaaGreatDoorPi
