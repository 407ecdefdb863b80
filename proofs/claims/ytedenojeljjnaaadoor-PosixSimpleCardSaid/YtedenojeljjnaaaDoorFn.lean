import Derived.Test.YtedenojeljjnaaaDoorInt
set_option linter.unusedVariables false
set_option maxRecDepth 100000
set_option maxHeartbeats 4000000
set_option linter.unusedVariables false
namespace Go.Proofs.YtedenojeljjnaaaDoorPi
open Go Go.Proofs
abbrev D_footer_reader := (ByteArray × Unit)
abbrev D_api_At := (Int × (Int × Unit))
abbrev D_api_Day := (Int × D_api_At)
abbrev T_noonmarkref17_Edge : Ty := (.pair .bool (.pair (.int .i64) T_api_Day))
abbrev D_noonmarkref17_Edge := (Bool × (Int × D_api_Day))
abbrev T_noonmarkref17_Spec : Ty := (.pair .str (.pair (.int .i64) (.pair .str (.pair (.int .i64) (.pair T_noonmarkref17_Edge (.pair T_noonmarkref17_Edge .unit))))))
abbrev D_noonmarkref17_Spec := (ByteArray × (Int × (ByteArray × (Int × (D_noonmarkref17_Edge × (D_noonmarkref17_Edge × Unit))))))
abbrev D_posix_spec := (D_noonmarkref17_Spec × Unit)
/-! ### noonmark/noonmarklaw26.light -/
abbrev noonmarklaw26_light_ps : Ty := T_posix_spec
abbrev noonmarklaw26_light_rs : Ty := (.pair .bool .unit)
def noonmarklaw26_light_sp : Specs := look []
def noonmarklaw26_light_an : An := .o
abbrev noonmarklaw26_light_R := Option (Bool × Unit)

def noonmarklaw26_light_px (_n : Nat) (x : D_posix_spec) : noonmarklaw26_light_R :=
  bif (decide ((ByteArray.size x.1.1 : Int) ≤ 50)) then
    some ((decide ((ByteArray.size x.1.2.2.1 : Int) ≤ 50)), ())
  else
    some (false, ())
def noonmarklaw26_light (n : Nat) (x : D_posix_spec) : noonmarklaw26_light_R := noonmarklaw26_light_px n x
theorem noonmarklaw26_light_ex (n : Nat) (rc : RC noonmarklaw26_light_R) (x : D_posix_spec) : codeR rc Tryd.prog noonmarklaw26_light_sp n (bodyOf Tryd.f4) noonmarklaw26_light_an (start noonmarklaw26_light_ps x (Func.ntmps Tryd.f4)) (kFin Tryd.prog noonmarklaw26_light_rs Tryd.f4) = noonmarklaw26_light_px n x := by kernel_rfl
theorem noonmarklaw26_light_qx (n : Nat) (x : D_posix_spec) : codeK Tryd.prog noonmarklaw26_light_sp n (bodyOf Tryd.f4) noonmarklaw26_light_an (start noonmarklaw26_light_ps x (Func.ntmps Tryd.f4)) (kFin Tryd.prog noonmarklaw26_light_rs Tryd.f4) = noonmarklaw26_light n x := by
  rw [codeK_R, noonmarklaw26_light_ex]
  rfl
def noonmarklaw26_light_spec : Sp := ⟨noonmarklaw26_light_ps, noonmarklaw26_light_rs, noonmarklaw26_light⟩
theorem noonmarklaw26_light_ok : SoundX Tryd.prog CX 4 (.f noonmarklaw26_light_spec) := sound_of look_nil Tryd.func4 (by kernel_rfl) rfl noonmarklaw26_light_an noonmarklaw26_light_spec rfl rfl noonmarklaw26_light_qx

/-! ### noonmark/format.Plain -/
abbrev format_Plain_ps : Ty := T_footer_reader
abbrev format_Plain_rs : Ty := (.pair .bool .unit)
def format_Plain_sp : Specs := look []
def format_Plain_an : An := (.s .o (.k [] [0] 0 (.k [] [0,7,8,9] 0 .o (.b (.l [] [0,7,8,9] 0 (.s .o (.s .o (.k [] [0,7,8,9] 0 (.b (.s .o (.s .o (.b (.k [] [0,7,8,9,15] 0 (.k [] [0,4,7,8,9,15] 0 .o .o) .o))))) .o)))))) .o))
abbrev format_Plain_R := Option (Bool × Unit)
noncomputable abbrev format_Plain_c0 : Code := (cr (cr (bodyOf Tryd.f24)))
noncomputable abbrev format_Plain_c1 : Code := (cr (cr (cr (cl (cl (cr (cl (cr (bodyOf Tryd.f24)))))))))
noncomputable abbrev format_Plain_c2 : Code := (cr (cl (cr (cr (cl (cl (cr (cr (cl (cl (cr (cl (cr (bodyOf Tryd.f24))))))))))))))
noncomputable abbrev format_Plain_c3 : Code := (cr (cl (cl (cr (cr (cl (cl (cr (cr (cl (cl (cr (cl (cr (bodyOf Tryd.f24)))))))))))))))
noncomputable abbrev format_Plain_c4 : Code := (cl (cl (cr (cl (cr (bodyOf Tryd.f24))))))
noncomputable abbrev format_Plain_c5 : Code := (cr (cl (cr (bodyOf Tryd.f24))))
noncomputable abbrev format_Plain_a0 : An := format_Plain_an.right.right
noncomputable abbrev format_Plain_a1 : An := format_Plain_an.right.left.right.left.left.right.right.right
noncomputable abbrev format_Plain_a2 : An := format_Plain_an.right.left.right.left
noncomputable abbrev format_Plain_a3 : An := format_Plain_an.right.left.right.left.left.right.right.left.left.right.right.left.right
noncomputable abbrev format_Plain_a4 : An := format_Plain_an.right.left.right.left.left.right.right
noncomputable abbrev format_Plain_a5 : An := format_Plain_an.right.left.right.left.left.right.right.left.left.right.right.left.left.right
noncomputable abbrev format_Plain_a6 : An := format_Plain_an.right.left.right.left.left.right.right.left.left.right.right.left
noncomputable abbrev format_Plain_a7 : An := format_Plain_an.right.left.right.left.left
noncomputable abbrev format_Plain_a8 : An := format_Plain_an.right.left.right
noncomputable abbrev format_Plain_K0 (r2 k0 : St → format_Plain_R) : Ex → St → format_Plain_R := (kSeq r2 format_Plain_a2 (kBlk 0 (kSeq k0 format_Plain_an.right (kFin Tryd.prog format_Plain_rs Tryd.f24))))
noncomputable abbrev format_Plain_K1 (k3 r2 k0 : St → format_Plain_R) : Ex → St → format_Plain_R := (kBlk 2 (kBlk 1 (kSeq k3 format_Plain_a4 (kSeq r2 format_Plain_a2 (kBlk 0 (kSeq k0 format_Plain_an.right (kFin Tryd.prog format_Plain_rs Tryd.f24)))))))
noncomputable abbrev format_Plain_K2 (k4 k3 r2 k0 : St → format_Plain_R) : Ex → St → format_Plain_R := (kSeq k4 format_Plain_a6 (kBlk 2 (kBlk 1 (kSeq k3 format_Plain_a4 (kSeq r2 format_Plain_a2 (kBlk 0 (kSeq k0 format_Plain_an.right (kFin Tryd.prog format_Plain_rs Tryd.f24))))))))
noncomputable abbrev format_Plain_K3 (r2 k0 : St → format_Plain_R) : Ex → St → format_Plain_R := (kSeq r2 format_Plain_a2 (kBlk 0 (kSeq k0 format_Plain_an.right (kFin Tryd.prog format_Plain_rs Tryd.f24))))
noncomputable abbrev format_Plain_K4 (k0 : St → format_Plain_R) : Ex → St → format_Plain_R := (kSeq k0 format_Plain_an.right (kFin Tryd.prog format_Plain_rs Tryd.f24))
abbrev format_Plain_t0 := ByteArray
def format_Plain_m0 (z : format_Plain_t0) : St := ⟨(.v ⟨.str, z⟩ :: jk 44 []), []⟩
abbrev format_Plain_t1 := ByteArray × (List Int) × Int × Int
def format_Plain_m1 (z : format_Plain_t1) : St := ⟨(.v ⟨.str, z.1⟩ :: jk 6 (.v ⟨(.list (.int .u8)), z.2.1⟩ :: .v ⟨(.int .i64), z.2.2.1⟩ :: .v ⟨(.int .i64), z.2.2.2⟩ :: jk 35 [])), []⟩
abbrev format_Plain_t2 := ByteArray × (List Int) × Int × Int
def format_Plain_m2 (z : format_Plain_t2) : St := ⟨(.v ⟨.str, z.1⟩ :: jk 6 (.v ⟨(.list (.int .u8)), z.2.1⟩ :: .v ⟨(.int .i64), z.2.2.1⟩ :: .v ⟨(.int .i64), z.2.2.2⟩ :: jk 35 [])), []⟩
abbrev format_Plain_t3 := ByteArray × (List Int) × Int × Int
def format_Plain_m3 (z : format_Plain_t3) : St := ⟨(.v ⟨.str, z.1⟩ :: jk 6 (.v ⟨(.list (.int .u8)), z.2.1⟩ :: .v ⟨(.int .i64), z.2.2.1⟩ :: .v ⟨(.int .i64), z.2.2.2⟩ :: jk 35 [])), []⟩
abbrev format_Plain_t4 := ByteArray × (List Int) × Int × Int × Bool
def format_Plain_m4 (z : format_Plain_t4) : St := ⟨(.v ⟨.str, z.1⟩ :: jk 6 (.v ⟨(.list (.int .u8)), z.2.1⟩ :: .v ⟨(.int .i64), z.2.2.1⟩ :: .v ⟨(.int .i64), z.2.2.2.1⟩ :: jk 5 (.v ⟨.bool, z.2.2.2.2⟩ :: jk 29 []))), []⟩
abbrev format_Plain_t5 := ByteArray × Int × (List Int) × Int × Int × Bool
def format_Plain_m5 (z : format_Plain_t5) : St := ⟨(.v ⟨.str, z.1⟩ :: jk 3 (.v ⟨(.int .u8), z.2.1⟩ :: .junk :: .junk :: .v ⟨(.list (.int .u8)), z.2.2.1⟩ :: .v ⟨(.int .i64), z.2.2.2.1⟩ :: .v ⟨(.int .i64), z.2.2.2.2.1⟩ :: jk 5 (.v ⟨.bool, z.2.2.2.2.2⟩ :: jk 29 []))), []⟩
def format_Plain_p0 (_n : Nat) (z : format_Plain_t0) : format_Plain_R :=
  bif (decide ((ByteArray.size z : Int) ≥ 3)) then
    some ((decide ((ByteArray.size z : Int) ≤ 6)), ())
  else
    some (false, ())
def format_Plain_s0 (n : Nat) (z : format_Plain_t0) : format_Plain_R := format_Plain_p0 n z
theorem format_Plain_e0 (n : Nat) (rc : RC format_Plain_R) (z : format_Plain_t0) : codeR rc Tryd.prog format_Plain_sp n format_Plain_c0 format_Plain_a0 (format_Plain_m0 z) (kFin Tryd.prog format_Plain_rs Tryd.f24) = format_Plain_p0 n z := by kernel_rfl
theorem format_Plain_q0 (n : Nat) (z : format_Plain_t0) : codeK Tryd.prog format_Plain_sp n format_Plain_c0 format_Plain_a0 (format_Plain_m0 z) (kFin Tryd.prog format_Plain_rs Tryd.f24) = format_Plain_s0 n z := by
  rw [codeK_R, format_Plain_e0]
  rfl
def format_Plain_p3 (_n : Nat) (_k0 : format_Plain_t0 → format_Plain_R) (r2 : format_Plain_t2 → format_Plain_R) (z : format_Plain_t3) : format_Plain_R :=
  r2 (z.1, z.2.1, z.2.2.1, (w64 (z.2.2.2 + 1)))
def format_Plain_s3 (n : Nat) (k0 : format_Plain_t0 → format_Plain_R) (r2 : format_Plain_t2 → format_Plain_R) (z : format_Plain_t3) : format_Plain_R := format_Plain_p3 n k0 r2 z
theorem format_Plain_e3 (n : Nat) (k0 : St → format_Plain_R) (r2 : St → format_Plain_R) (rc : RC format_Plain_R) (z : format_Plain_t3) : codeR rc Tryd.prog format_Plain_sp n format_Plain_c1 format_Plain_a1 (format_Plain_m3 z) (format_Plain_K0 r2 k0) = format_Plain_p3 n (fun y => k0 (format_Plain_m0 y)) (fun y => r2 (format_Plain_m2 y)) z := by kernel_rfl
theorem format_Plain_q3 (n : Nat) (k0 : St → format_Plain_R) (r2 : St → format_Plain_R) (z : format_Plain_t3) : codeK Tryd.prog format_Plain_sp n format_Plain_c1 format_Plain_a1 (format_Plain_m3 z) (format_Plain_K0 r2 k0) = format_Plain_s3 n (fun y => k0 (format_Plain_m0 y)) (fun y => r2 (format_Plain_m2 y)) z := by
  rw [codeK_R, format_Plain_e3]
  rfl
def format_Plain_p4 (_n : Nat) (_k0 : format_Plain_t0 → format_Plain_R) (_r2 : format_Plain_t2 → format_Plain_R) (k3 : format_Plain_t3 → format_Plain_R) (z : format_Plain_t4) : format_Plain_R :=
  bif z.2.2.2.2 then
    k3 (z.1, z.2.1, z.2.2.1, z.2.2.2.1)
  else
    some (false, ())
def format_Plain_s4 (n : Nat) (k0 : format_Plain_t0 → format_Plain_R) (r2 : format_Plain_t2 → format_Plain_R) (k3 : format_Plain_t3 → format_Plain_R) (z : format_Plain_t4) : format_Plain_R := format_Plain_p4 n k0 r2 k3 z
theorem format_Plain_e4 (n : Nat) (k0 : St → format_Plain_R) (r2 : St → format_Plain_R) (k3 : St → format_Plain_R) (rc : RC format_Plain_R) (z : format_Plain_t4) : codeR rc Tryd.prog format_Plain_sp n format_Plain_c2 format_Plain_a3 (format_Plain_m4 z) (format_Plain_K1 k3 r2 k0) = format_Plain_p4 n (fun y => k0 (format_Plain_m0 y)) (fun y => r2 (format_Plain_m2 y)) (fun y => k3 (format_Plain_m3 y)) z := by kernel_rfl
theorem format_Plain_q4 (n : Nat) (k0 : St → format_Plain_R) (r2 : St → format_Plain_R) (k3 : St → format_Plain_R) (z : format_Plain_t4) : codeK Tryd.prog format_Plain_sp n format_Plain_c2 format_Plain_a3 (format_Plain_m4 z) (format_Plain_K1 k3 r2 k0) = format_Plain_s4 n (fun y => k0 (format_Plain_m0 y)) (fun y => r2 (format_Plain_m2 y)) (fun y => k3 (format_Plain_m3 y)) z := by
  rw [codeK_R, format_Plain_e4]
  rfl
def format_Plain_p5 (_n : Nat) (_k0 : format_Plain_t0 → format_Plain_R) (_r2 : format_Plain_t2 → format_Plain_R) (_k3 : format_Plain_t3 → format_Plain_R) (k4 : format_Plain_t4 → format_Plain_R) (z : format_Plain_t5) : format_Plain_R :=
  bif z.2.2.2.2.2 then
    k4 (z.1, z.2.2.1, z.2.2.2.1, z.2.2.2.2.1, true)
  else
    bif (decide (48 ≤ z.2.1)) then
      bif (decide (z.2.1 ≤ 57)) then
        k4 (z.1, z.2.2.1, z.2.2.2.1, z.2.2.2.2.1, true)
      else
        bif (z.2.1 == 43) then
          k4 (z.1, z.2.2.1, z.2.2.2.1, z.2.2.2.2.1, true)
        else
          k4 (z.1, z.2.2.1, z.2.2.2.1, z.2.2.2.2.1, (z.2.1 == 45))
    else
      bif (z.2.1 == 43) then
        k4 (z.1, z.2.2.1, z.2.2.2.1, z.2.2.2.2.1, true)
      else
        k4 (z.1, z.2.2.1, z.2.2.2.1, z.2.2.2.2.1, (z.2.1 == 45))
def format_Plain_s5 (n : Nat) (k0 : format_Plain_t0 → format_Plain_R) (r2 : format_Plain_t2 → format_Plain_R) (k3 : format_Plain_t3 → format_Plain_R) (k4 : format_Plain_t4 → format_Plain_R) (z : format_Plain_t5) : format_Plain_R := format_Plain_p5 n k0 r2 k3 k4 z
theorem format_Plain_e5 (n : Nat) (k0 : St → format_Plain_R) (r2 : St → format_Plain_R) (k3 : St → format_Plain_R) (k4 : St → format_Plain_R) (rc : RC format_Plain_R) (z : format_Plain_t5) : codeR rc Tryd.prog format_Plain_sp n format_Plain_c3 format_Plain_a5 (format_Plain_m5 z) (format_Plain_K2 k4 k3 r2 k0) = format_Plain_p5 n (fun y => k0 (format_Plain_m0 y)) (fun y => r2 (format_Plain_m2 y)) (fun y => k3 (format_Plain_m3 y)) (fun y => k4 (format_Plain_m4 y)) z := by kernel_rfl
theorem format_Plain_q5 (n : Nat) (k0 : St → format_Plain_R) (r2 : St → format_Plain_R) (k3 : St → format_Plain_R) (k4 : St → format_Plain_R) (z : format_Plain_t5) : codeK Tryd.prog format_Plain_sp n format_Plain_c3 format_Plain_a5 (format_Plain_m5 z) (format_Plain_K2 k4 k3 r2 k0) = format_Plain_s5 n (fun y => k0 (format_Plain_m0 y)) (fun y => r2 (format_Plain_m2 y)) (fun y => k3 (format_Plain_m3 y)) (fun y => k4 (format_Plain_m4 y)) z := by
  rw [codeK_R, format_Plain_e5]
  rfl
def format_Plain_p2 (_n : Nat) (k0 : format_Plain_t0 → format_Plain_R) (_r2 : format_Plain_t2 → format_Plain_R) (k3 : format_Plain_t3 → format_Plain_R) (k4 : format_Plain_t4 → format_Plain_R) (k5 : format_Plain_t5 → format_Plain_R) (z : format_Plain_t2) : format_Plain_R :=
  bif (decide (z.2.2.2 < z.2.2.1)) then
    bif decide (0 ≤ z.2.2.2) then
      ((z.2.1[Int.toNat z.2.2.2]?)).bind fun e2 =>
      let t3 := w8 (((BitVec.ofInt (IntKind.bits .u8) e2) ||| (BitVec.ofInt (IntKind.bits .u8) (32 : Int))).toNat : Int)
      bif (decide (97 ≤ t3)) then
        bif (decide (t3 ≤ 122)) then
          k5 (z.1, e2, z.2.1, z.2.2.1, z.2.2.2, (decide (e2 < 128)))
        else
          k5 (z.1, e2, z.2.1, z.2.2.1, z.2.2.2, false)
      else
        k5 (z.1, e2, z.2.1, z.2.2.1, z.2.2.2, false)
    else none
  else
    k0 z.1
def format_Plain_s2 (n : Nat) (k0 : format_Plain_t0 → format_Plain_R) (r2 : format_Plain_t2 → format_Plain_R) (z : format_Plain_t2) : format_Plain_R := format_Plain_p2 n k0 r2 (format_Plain_s3 n k0 r2) (format_Plain_s4 n k0 r2 (format_Plain_s3 n k0 r2)) (format_Plain_s5 n k0 r2 (format_Plain_s3 n k0 r2) (format_Plain_s4 n k0 r2 (format_Plain_s3 n k0 r2))) z
theorem format_Plain_e2 (n : Nat) (k0 : St → format_Plain_R) (r2 : St → format_Plain_R) (rc : RC format_Plain_R) (z : format_Plain_t2) : codeR rc Tryd.prog format_Plain_sp n format_Plain_c4 format_Plain_a7 (format_Plain_m2 z) (format_Plain_K3 r2 k0) = format_Plain_p2 n (fun y => k0 (format_Plain_m0 y)) (fun y => r2 (format_Plain_m2 y)) (fun y => rc format_Plain_c1 format_Plain_a1 (format_Plain_m3 y) (format_Plain_K0 r2 k0)) (fun y => rc format_Plain_c2 format_Plain_a3 (format_Plain_m4 y) (format_Plain_K1 (fun st => rc format_Plain_c1 format_Plain_a1 st (format_Plain_K0 r2 k0)) r2 k0)) (fun y => rc format_Plain_c3 format_Plain_a5 (format_Plain_m5 y) (format_Plain_K2 (fun st => rc format_Plain_c2 format_Plain_a3 st (format_Plain_K1 (fun st => rc format_Plain_c1 format_Plain_a1 st (format_Plain_K0 r2 k0)) r2 k0)) (fun st => rc format_Plain_c1 format_Plain_a1 st (format_Plain_K0 r2 k0)) r2 k0)) z := by kernel_rfl
theorem format_Plain_q2 (n : Nat) (k0 : St → format_Plain_R) (r2 : St → format_Plain_R) (z : format_Plain_t2) : codeK Tryd.prog format_Plain_sp n format_Plain_c4 format_Plain_a7 (format_Plain_m2 z) (format_Plain_K3 r2 k0) = format_Plain_s2 n (fun y => k0 (format_Plain_m0 y)) (fun y => r2 (format_Plain_m2 y)) z := by
  have h3 : (fun y => codeK Tryd.prog format_Plain_sp n format_Plain_c1 format_Plain_a1 (format_Plain_m3 y) (format_Plain_K0 r2 k0)) = (format_Plain_s3 n (fun y => k0 (format_Plain_m0 y)) (fun y => r2 (format_Plain_m2 y))) := funext fun y => by
    have := format_Plain_q3 n k0 r2 y
    exact this
  have h4 : (fun y => codeK Tryd.prog format_Plain_sp n format_Plain_c2 format_Plain_a3 (format_Plain_m4 y) (format_Plain_K1 (fun st => codeK Tryd.prog format_Plain_sp n format_Plain_c1 format_Plain_a1 st (format_Plain_K0 r2 k0)) r2 k0)) = (format_Plain_s4 n (fun y => k0 (format_Plain_m0 y)) (fun y => r2 (format_Plain_m2 y)) (format_Plain_s3 n (fun y => k0 (format_Plain_m0 y)) (fun y => r2 (format_Plain_m2 y)))) := funext fun y => by
    have := format_Plain_q4 n k0 r2 (fun st => codeK Tryd.prog format_Plain_sp n format_Plain_c1 format_Plain_a1 st (format_Plain_K0 r2 k0)) y
    rw [h3] at this; exact this
  have h5 : (fun y => codeK Tryd.prog format_Plain_sp n format_Plain_c3 format_Plain_a5 (format_Plain_m5 y) (format_Plain_K2 (fun st => codeK Tryd.prog format_Plain_sp n format_Plain_c2 format_Plain_a3 st (format_Plain_K1 (fun st => codeK Tryd.prog format_Plain_sp n format_Plain_c1 format_Plain_a1 st (format_Plain_K0 r2 k0)) r2 k0)) (fun st => codeK Tryd.prog format_Plain_sp n format_Plain_c1 format_Plain_a1 st (format_Plain_K0 r2 k0)) r2 k0)) = (format_Plain_s5 n (fun y => k0 (format_Plain_m0 y)) (fun y => r2 (format_Plain_m2 y)) (format_Plain_s3 n (fun y => k0 (format_Plain_m0 y)) (fun y => r2 (format_Plain_m2 y))) (format_Plain_s4 n (fun y => k0 (format_Plain_m0 y)) (fun y => r2 (format_Plain_m2 y)) (format_Plain_s3 n (fun y => k0 (format_Plain_m0 y)) (fun y => r2 (format_Plain_m2 y))))) := funext fun y => by
    have := format_Plain_q5 n k0 r2 (fun st => codeK Tryd.prog format_Plain_sp n format_Plain_c1 format_Plain_a1 st (format_Plain_K0 r2 k0)) (fun st => codeK Tryd.prog format_Plain_sp n format_Plain_c2 format_Plain_a3 st (format_Plain_K1 (fun st => codeK Tryd.prog format_Plain_sp n format_Plain_c1 format_Plain_a1 st (format_Plain_K0 r2 k0)) r2 k0)) y
    rw [h3] at this; rw [h4] at this; exact this
  rw [codeK_R, format_Plain_e2]
  rw [h3]
  rw [h4]
  rw [h5]
  rfl
def format_Plain_s1 (n : Nat) (k0 : format_Plain_t0 → format_Plain_R) (z : format_Plain_t1) : format_Plain_R :=
  rounds (fun r2 x' => format_Plain_s2 n k0 r2 x') n (z.1, z.2.1, z.2.2.1, z.2.2.2)
theorem format_Plain_q1 (n : Nat) (k0 : St → format_Plain_R) (z : format_Plain_t1) : codeK Tryd.prog format_Plain_sp n format_Plain_c5 format_Plain_a8 (format_Plain_m1 z) (format_Plain_K4 k0) = format_Plain_s1 n (fun y => k0 (format_Plain_m0 y)) z :=
  Eq.trans (b := rounds (fun r2 st => codeK Tryd.prog format_Plain_sp n format_Plain_c4 format_Plain_a7 st (format_Plain_K3 r2 k0)) n (format_Plain_m2 (z.1, z.2.1, z.2.2.1, z.2.2.2))) (by kernel_rfl) (rounds_mk format_Plain_m2 (fun r2 x' => by
    have := (format_Plain_q2 n k0 r2 x')
    exact this) n _)
def format_Plain_px (_n : Nat) (k0 : format_Plain_t0 → format_Plain_R) (k1 : format_Plain_t1 → format_Plain_R) (x : D_footer_reader) : format_Plain_R :=
  let t1 := bytesOf x.1
  k1 (x.1, t1, (List.length t1 : Int), (0 : Int))
def format_Plain (n : Nat) (x : D_footer_reader) : format_Plain_R := format_Plain_px n (format_Plain_s0 n) (format_Plain_s1 n (format_Plain_s0 n)) x
theorem format_Plain_ex (n : Nat) (rc : RC format_Plain_R) (x : D_footer_reader) : codeR rc Tryd.prog format_Plain_sp n (bodyOf Tryd.f24) format_Plain_an (start format_Plain_ps x (Func.ntmps Tryd.f24)) (kFin Tryd.prog format_Plain_rs Tryd.f24) = format_Plain_px n (fun y => rc format_Plain_c0 format_Plain_a0 (format_Plain_m0 y) (kFin Tryd.prog format_Plain_rs Tryd.f24)) (fun y => rc format_Plain_c5 format_Plain_a8 (format_Plain_m1 y) (format_Plain_K4 (fun st => rc format_Plain_c0 format_Plain_a0 st (kFin Tryd.prog format_Plain_rs Tryd.f24)))) x := by kernel_rfl
theorem format_Plain_qx (n : Nat) (x : D_footer_reader) : codeK Tryd.prog format_Plain_sp n (bodyOf Tryd.f24) format_Plain_an (start format_Plain_ps x (Func.ntmps Tryd.f24)) (kFin Tryd.prog format_Plain_rs Tryd.f24) = format_Plain n x := by
  have h0 : (fun y => codeK Tryd.prog format_Plain_sp n format_Plain_c0 format_Plain_a0 (format_Plain_m0 y) (kFin Tryd.prog format_Plain_rs Tryd.f24)) = (format_Plain_s0 n) := funext fun y => by
    have := format_Plain_q0 n  y
    exact this
  have h1 : (fun y => codeK Tryd.prog format_Plain_sp n format_Plain_c5 format_Plain_a8 (format_Plain_m1 y) (format_Plain_K4 (fun st => codeK Tryd.prog format_Plain_sp n format_Plain_c0 format_Plain_a0 st (kFin Tryd.prog format_Plain_rs Tryd.f24)))) = (format_Plain_s1 n (format_Plain_s0 n)) := funext fun y => by
    have := format_Plain_q1 n (fun st => codeK Tryd.prog format_Plain_sp n format_Plain_c0 format_Plain_a0 st (kFin Tryd.prog format_Plain_rs Tryd.f24)) y
    rw [h0] at this; exact this
  rw [codeK_R, format_Plain_ex]
  rw [h0]
  rw [h1]
  rfl
def format_Plain_spec : Sp := ⟨format_Plain_ps, format_Plain_rs, format_Plain⟩
theorem format_Plain_ok : SoundX Tryd.prog CX 24 (.f format_Plain_spec) := sound_of look_nil Tryd.func24 (by kernel_rfl) rfl format_Plain_an format_Plain_spec rfl rfl format_Plain_qx

/-! ### noonmark/footer.within -/
abbrev footer_within_ps : Ty := T_api_Day
abbrev footer_within_rs : Ty := (.pair .bool .unit)
def footer_within_sp : Specs := look []
def footer_within_an : An := .o
abbrev footer_within_R := Option (Bool × Unit)

def footer_within_px (_n : Nat) (x : D_api_Day) : footer_within_R :=
  bif (decide (x.1 ≥ x.2.1)) then
    some ((decide (x.1 ≤ x.2.2.1)), ())
  else
    some (false, ())
def footer_within (n : Nat) (x : D_api_Day) : footer_within_R := footer_within_px n x
theorem footer_within_ex (n : Nat) (rc : RC footer_within_R) (x : D_api_Day) : codeR rc Tryd.prog footer_within_sp n (bodyOf Tryd.f25) footer_within_an (start footer_within_ps x (Func.ntmps Tryd.f25)) (kFin Tryd.prog footer_within_rs Tryd.f25) = footer_within_px n x := by kernel_rfl
theorem footer_within_qx (n : Nat) (x : D_api_Day) : codeK Tryd.prog footer_within_sp n (bodyOf Tryd.f25) footer_within_an (start footer_within_ps x (Func.ntmps Tryd.f25)) (kFin Tryd.prog footer_within_rs Tryd.f25) = footer_within n x := by
  rw [codeK_R, footer_within_ex]
  rfl
def footer_within_spec : Sp := ⟨footer_within_ps, footer_within_rs, footer_within⟩
theorem footer_within_ok : SoundX Tryd.prog CX 25 (.f footer_within_spec) := sound_of look_nil Tryd.func25 (by kernel_rfl) rfl footer_within_an footer_within_spec rfl rfl footer_within_qx

/-! ### (noonmark/footer.Edge).right -/
abbrev footer_Edge_right_ps : Ty := (.pair T_noonmarkref17_Edge .unit)
abbrev footer_Edge_right_rs : Ty := (.pair .bool .unit)
def footer_Edge_right_sp : Specs := look [(25, .f footer_within_spec)]
def footer_Edge_right_an : An := .o
abbrev footer_Edge_right_R := Option (Bool × Unit)

def footer_Edge_right_px (n : Nat) (x : (D_noonmarkref17_Edge × Unit)) : footer_Edge_right_R :=
  bif x.1.1 then
    ((footer_within n (x.1.2.1, ((1 : Int), ((365 : Int), ()))))).bind fun v1 =>
    bif v1.1 then
      bif (x.1.2.2.1 == 0) then
        bif (x.1.2.2.2.1 == 0) then
          ((footer_within n (x.1.2.2.2.2.1, ((-604799 : Int), ((604799 : Int), ()))))).bind fun v2 =>
          some (v2.1, ())
        else
          some (false, ())
      else
        some (false, ())
    else
      some (false, ())
  else
    ((footer_within n (x.1.2.2.1, ((1 : Int), ((12 : Int), ()))))).bind fun v3 =>
    bif v3.1 then
      ((footer_within n (x.1.2.2.2.1, ((1 : Int), ((5 : Int), ()))))).bind fun v4 =>
      bif v4.1 then
        ((footer_within n (x.1.2.1, ((0 : Int), ((6 : Int), ()))))).bind fun v5 =>
        bif v5.1 then
          ((footer_within n (x.1.2.2.2.2.1, ((-604799 : Int), ((604799 : Int), ()))))).bind fun v6 =>
          some (v6.1, ())
        else
          some (false, ())
      else
        some (false, ())
    else
      some (false, ())
def footer_Edge_right (n : Nat) (x : (D_noonmarkref17_Edge × Unit)) : footer_Edge_right_R := footer_Edge_right_px n x
theorem footer_Edge_right_ex (n : Nat) (rc : RC footer_Edge_right_R) (x : (D_noonmarkref17_Edge × Unit)) : codeR rc Tryd.prog footer_Edge_right_sp n (bodyOf Tryd.f26) footer_Edge_right_an (start footer_Edge_right_ps x (Func.ntmps Tryd.f26)) (kFin Tryd.prog footer_Edge_right_rs Tryd.f26) = footer_Edge_right_px n x := by kernel_rfl
theorem footer_Edge_right_qx (n : Nat) (x : (D_noonmarkref17_Edge × Unit)) : codeK Tryd.prog footer_Edge_right_sp n (bodyOf Tryd.f26) footer_Edge_right_an (start footer_Edge_right_ps x (Func.ntmps Tryd.f26)) (kFin Tryd.prog footer_Edge_right_rs Tryd.f26) = footer_Edge_right n x := by
  rw [codeK_R, footer_Edge_right_ex]
  rfl
def footer_Edge_right_spec : Sp := ⟨footer_Edge_right_ps, footer_Edge_right_rs, footer_Edge_right⟩
theorem footer_Edge_right_ok : SoundX Tryd.prog CX 26 (.f footer_Edge_right_spec) := sound_of (look_cons footer_within_ok look_nil) Tryd.func26 (by kernel_rfl) rfl footer_Edge_right_an footer_Edge_right_spec rfl rfl footer_Edge_right_qx

/-! ### noonmark/footer.Right -/
abbrev footer_Right_ps : Ty := T_posix_spec
abbrev footer_Right_rs : Ty := (.pair .bool .unit)
def footer_Right_sp : Specs := look [(24, .f format_Plain_spec), (25, .f footer_within_spec), (26, .f footer_Edge_right_spec)]
def footer_Right_an : An := .o
abbrev footer_Right_R := Option (Bool × Unit)

def footer_Right_px (n : Nat) (x : D_posix_spec) : footer_Right_R :=
  ((format_Plain n (x.1.1, ()))).bind fun v1 =>
  bif v1.1 then
    ((footer_within n (x.1.2.1, ((-86400 : Int), ((86400 : Int), ()))))).bind fun v2 =>
    bif (x.1.2.2.1.toList == (⟨#[]⟩ : ByteArray).toList) then
      bif v2.1 then
        some ((eqD T_noonmarkref17_Spec x.1 (x.1.1, (x.1.2.1, ((⟨#[]⟩ : ByteArray), ((0 : Int), ((false, ((0 : Int), ((0 : Int), ((0 : Int), ((0 : Int), ()))))), ((false, ((0 : Int), ((0 : Int), ((0 : Int), ((0 : Int), ()))))), ()))))))), ())
      else
        some (false, ())
    else
      bif v2.1 then
        ((format_Plain n (x.1.2.2.1, ()))).bind fun v3 =>
        bif v3.1 then
          ((footer_within n (x.1.2.2.2.1, ((-86400 : Int), ((86400 : Int), ()))))).bind fun v4 =>
          bif v4.1 then
            ((footer_Edge_right n (x.1.2.2.2.2.1, ()))).bind fun v5 =>
            bif v5.1 then
              ((footer_Edge_right n (x.1.2.2.2.2.2.1, ()))).bind fun v6 =>
              some (v6.1, ())
            else
              some (false, ())
          else
            some (false, ())
        else
          some (false, ())
      else
        some (false, ())
  else
    bif (x.1.2.2.1.toList == (⟨#[]⟩ : ByteArray).toList) then
      some (false, ())
    else
      some (false, ())
def footer_Right (n : Nat) (x : D_posix_spec) : footer_Right_R := footer_Right_px n x
theorem footer_Right_ex (n : Nat) (rc : RC footer_Right_R) (x : D_posix_spec) : codeR rc Tryd.prog footer_Right_sp n (bodyOf Tryd.f13) footer_Right_an (start footer_Right_ps x (Func.ntmps Tryd.f13)) (kFin Tryd.prog footer_Right_rs Tryd.f13) = footer_Right_px n x := by kernel_rfl
theorem footer_Right_qx (n : Nat) (x : D_posix_spec) : codeK Tryd.prog footer_Right_sp n (bodyOf Tryd.f13) footer_Right_an (start footer_Right_ps x (Func.ntmps Tryd.f13)) (kFin Tryd.prog footer_Right_rs Tryd.f13) = footer_Right n x := by
  rw [codeK_R, footer_Right_ex]
  rfl
def footer_Right_spec : Sp := ⟨footer_Right_ps, footer_Right_rs, footer_Right⟩
theorem footer_Right_ok : SoundX Tryd.prog CX 13 (.f footer_Right_spec) := sound_of (look_cons format_Plain_ok (look_cons footer_within_ok (look_cons footer_Edge_right_ok look_nil))) Tryd.func13 (by kernel_rfl) rfl footer_Right_an footer_Right_spec rfl rfl footer_Right_qx

/-! ### noonmark/civil.Leap -/
abbrev civil_Leap_ps : Ty := (.pair (.int .i64) .unit)
abbrev civil_Leap_rs : Ty := (.pair .bool .unit)
def civil_Leap_sp : Specs := look []
def civil_Leap_an : An := .o
abbrev civil_Leap_R := Option (Bool × Unit)

def civil_Leap_px (_n : Nat) (x : (Int × Unit)) : civil_Leap_R :=
  bif ((w64 (((BitVec.ofInt (IntKind.bits .i64) x.1) &&& (BitVec.ofInt (IntKind.bits .i64) (3 : Int))).toNat : Int)) == 0) then
    bif ((Int.tmod x.1 (25 : Int)) != 0) then
      some (true, ())
    else
      some (((w64 (((BitVec.ofInt (IntKind.bits .i64) x.1) &&& (BitVec.ofInt (IntKind.bits .i64) (15 : Int))).toNat : Int)) == 0), ())
  else
    some (false, ())
def civil_Leap (n : Nat) (x : (Int × Unit)) : civil_Leap_R := civil_Leap_px n x
theorem civil_Leap_ex (n : Nat) (rc : RC civil_Leap_R) (x : (Int × Unit)) : codeR rc Tryd.prog civil_Leap_sp n (bodyOf Tryd.f60) civil_Leap_an (start civil_Leap_ps x (Func.ntmps Tryd.f60)) (kFin Tryd.prog civil_Leap_rs Tryd.f60) = civil_Leap_px n x := by kernel_rfl
theorem civil_Leap_qx (n : Nat) (x : (Int × Unit)) : codeK Tryd.prog civil_Leap_sp n (bodyOf Tryd.f60) civil_Leap_an (start civil_Leap_ps x (Func.ntmps Tryd.f60)) (kFin Tryd.prog civil_Leap_rs Tryd.f60) = civil_Leap n x := by
  rw [codeK_R, civil_Leap_ex]
  rfl
def civil_Leap_spec : Sp := ⟨civil_Leap_ps, civil_Leap_rs, civil_Leap⟩
theorem civil_Leap_ok : SoundX Tryd.prog CX 60 (.f civil_Leap_spec) := sound_of look_nil Tryd.func60 (by kernel_rfl) rfl civil_Leap_an civil_Leap_spec rfl rfl civil_Leap_qx

/-! ### noonmark/civil.Long -/
abbrev civil_Long_ps : Ty := T_api_At
abbrev civil_Long_rs : Ty := (.pair (.int .i64) .unit)
def civil_Long_sp : Specs := look [(60, .f civil_Leap_spec)]
def civil_Long_an : An := .o
abbrev civil_Long_R := Option (Int × Unit)

def civil_Long_px (n : Nat) (x : D_api_At) : civil_Long_R :=
  bif (decide (x.2.1 < 1)) then
    some ((0 : Int), ())
  else
    bif (decide (x.2.1 > 12)) then
      some ((0 : Int), ())
    else
      bif (x.2.1 == 2) then
        ((civil_Leap n (x.1, ()))).bind fun v1 =>
        bif v1.1 then
          some ((29 : Int), ())
        else
          let t2 := w64 (x.2.1 - 1)
          bif decide (0 ≤ t2) then
            (((chain 12 (.int .i64) ((31 : Int), ((28 : Int), ((31 : Int), ((30 : Int), ((31 : Int), ((30 : Int), ((31 : Int), ((31 : Int), ((30 : Int), ((31 : Int), ((30 : Int), ((31 : Int), ())))))))))))))[Int.toNat t2]?)).bind fun c3 =>
            some (c3, ())
          else none
      else
        let t4 := w64 (x.2.1 - 1)
        bif decide (0 ≤ t4) then
          (((chain 12 (.int .i64) ((31 : Int), ((28 : Int), ((31 : Int), ((30 : Int), ((31 : Int), ((30 : Int), ((31 : Int), ((31 : Int), ((30 : Int), ((31 : Int), ((30 : Int), ((31 : Int), ())))))))))))))[Int.toNat t4]?)).bind fun c5 =>
          some (c5, ())
        else none
def civil_Long (n : Nat) (x : D_api_At) : civil_Long_R := civil_Long_px n x
theorem civil_Long_ex (n : Nat) (rc : RC civil_Long_R) (x : D_api_At) : codeR rc Tryd.prog civil_Long_sp n (bodyOf Tryd.f43) civil_Long_an (start civil_Long_ps x (Func.ntmps Tryd.f43)) (kFin Tryd.prog civil_Long_rs Tryd.f43) = civil_Long_px n x := by kernel_rfl
theorem civil_Long_qx (n : Nat) (x : D_api_At) : codeK Tryd.prog civil_Long_sp n (bodyOf Tryd.f43) civil_Long_an (start civil_Long_ps x (Func.ntmps Tryd.f43)) (kFin Tryd.prog civil_Long_rs Tryd.f43) = civil_Long n x := by
  rw [codeK_R, civil_Long_ex]
  rfl
def civil_Long_spec : Sp := ⟨civil_Long_ps, civil_Long_rs, civil_Long⟩
theorem civil_Long_ok : SoundX Tryd.prog CX 43 (.f civil_Long_spec) := sound_of (look_cons civil_Leap_ok look_nil) Tryd.func43 (by kernel_rfl) rfl civil_Long_an civil_Long_spec rfl rfl civil_Long_qx

/-! ### noonmark/civil.Right -/
abbrev civil_Right_ps : Ty := T_api_Day
abbrev civil_Right_rs : Ty := (.pair .bool .unit)
def civil_Right_sp : Specs := look [(43, .f civil_Long_spec)]
def civil_Right_an : An := .o
abbrev civil_Right_R := Option (Bool × Unit)

def civil_Right_px (n : Nat) (x : D_api_Day) : civil_Right_R :=
  bif (decide (x.1 ≥ (-9999))) then
    bif (decide (x.1 ≤ 9999)) then
      bif (decide (x.2.2.1 ≥ 1)) then
        ((civil_Long n (x.1, (x.2.1, ())))).bind fun v1 =>
        some ((decide (x.2.2.1 ≤ v1.1)), ())
      else
        some (false, ())
    else
      some (false, ())
  else
    some (false, ())
def civil_Right (n : Nat) (x : D_api_Day) : civil_Right_R := civil_Right_px n x
theorem civil_Right_ex (n : Nat) (rc : RC civil_Right_R) (x : D_api_Day) : codeR rc Tryd.prog civil_Right_sp n (bodyOf Tryd.f58) civil_Right_an (start civil_Right_ps x (Func.ntmps Tryd.f58)) (kFin Tryd.prog civil_Right_rs Tryd.f58) = civil_Right_px n x := by kernel_rfl
theorem civil_Right_qx (n : Nat) (x : D_api_Day) : codeK Tryd.prog civil_Right_sp n (bodyOf Tryd.f58) civil_Right_an (start civil_Right_ps x (Func.ntmps Tryd.f58)) (kFin Tryd.prog civil_Right_rs Tryd.f58) = civil_Right n x := by
  rw [codeK_R, civil_Right_ex]
  rfl
def civil_Right_spec : Sp := ⟨civil_Right_ps, civil_Right_rs, civil_Right⟩
theorem civil_Right_ok : SoundX Tryd.prog CX 58 (.f civil_Right_spec) := sound_of (look_cons civil_Long_ok look_nil) Tryd.func58 (by kernel_rfl) rfl civil_Right_an civil_Right_spec rfl rfl civil_Right_qx

/-! ### noonmark/civil.number -/
abbrev civil_number_ps : Ty := T_api_Day
abbrev civil_number_rs : Ty := (.pair (.int .i64) .unit)
def civil_number_sp : Specs := look []
def civil_number_an : An := (.s .o (.k [] [0,1,2] 0 .o .o))
abbrev civil_number_R := Option (Int × Unit)
noncomputable abbrev civil_number_c0 : Code := (cr (cr (bodyOf Tryd.f59)))
noncomputable abbrev civil_number_a0 : An := civil_number_an.right.right
abbrev civil_number_t0 := Int × Int × Int
def civil_number_m0 (z : civil_number_t0) : St := ⟨(.v ⟨(.int .i64), z.1⟩ :: .v ⟨(.int .i64), z.2.1⟩ :: .v ⟨(.int .i64), z.2.2⟩ :: jk 42 []), []⟩
def civil_number_p0 (_n : Nat) (z : civil_number_t0) : civil_number_R :=
  let t4 := w64 (Int.tdiv (w64 (z.1 + 12000)) (400 : Int))
  let t7 := w64 ((w64 (z.1 + 12000)) - (w64 (t4 * 400)))
  some ((w64 ((w64 ((w64 ((w64 ((w64 ((w64 (t4 * 146097)) + (w64 (t7 * 365)))) + (w64 (Int.tdiv t7 (4 : Int))))) - (w64 (Int.tdiv t7 (100 : Int))))) + (w64 ((w64 ((w64 (Int.tdiv (w64 ((w64 (153 * (w64 (z.2.1 - 3)))) + 2)) (5 : Int))) + z.2.2)) - 1)))) - 5102378)), ())
def civil_number_s0 (n : Nat) (z : civil_number_t0) : civil_number_R := civil_number_p0 n z
theorem civil_number_e0 (n : Nat) (rc : RC civil_number_R) (z : civil_number_t0) : codeR rc Tryd.prog civil_number_sp n civil_number_c0 civil_number_a0 (civil_number_m0 z) (kFin Tryd.prog civil_number_rs Tryd.f59) = civil_number_p0 n z := by kernel_rfl
theorem civil_number_q0 (n : Nat) (z : civil_number_t0) : codeK Tryd.prog civil_number_sp n civil_number_c0 civil_number_a0 (civil_number_m0 z) (kFin Tryd.prog civil_number_rs Tryd.f59) = civil_number_s0 n z := by
  rw [codeK_R, civil_number_e0]
  rfl
def civil_number_px (_n : Nat) (k0 : civil_number_t0 → civil_number_R) (x : D_api_Day) : civil_number_R :=
  bif (decide (x.2.1 ≤ 2)) then
    k0 ((w64 (x.1 - 1)), (w64 (x.2.1 + 12)), x.2.2.1)
  else
    k0 (x.1, x.2.1, x.2.2.1)
def civil_number (n : Nat) (x : D_api_Day) : civil_number_R := civil_number_px n (civil_number_s0 n) x
theorem civil_number_ex (n : Nat) (rc : RC civil_number_R) (x : D_api_Day) : codeR rc Tryd.prog civil_number_sp n (bodyOf Tryd.f59) civil_number_an (start civil_number_ps x (Func.ntmps Tryd.f59)) (kFin Tryd.prog civil_number_rs Tryd.f59) = civil_number_px n (fun y => rc civil_number_c0 civil_number_a0 (civil_number_m0 y) (kFin Tryd.prog civil_number_rs Tryd.f59)) x := by kernel_rfl
theorem civil_number_qx (n : Nat) (x : D_api_Day) : codeK Tryd.prog civil_number_sp n (bodyOf Tryd.f59) civil_number_an (start civil_number_ps x (Func.ntmps Tryd.f59)) (kFin Tryd.prog civil_number_rs Tryd.f59) = civil_number n x := by
  have h0 : (fun y => codeK Tryd.prog civil_number_sp n civil_number_c0 civil_number_a0 (civil_number_m0 y) (kFin Tryd.prog civil_number_rs Tryd.f59)) = (civil_number_s0 n) := funext fun y => by
    have := civil_number_q0 n  y
    exact this
  rw [codeK_R, civil_number_ex]
  rw [h0]
  rfl
def civil_number_spec : Sp := ⟨civil_number_ps, civil_number_rs, civil_number⟩
theorem civil_number_ok : SoundX Tryd.prog CX 59 (.f civil_number_spec) := sound_of look_nil Tryd.func59 (by kernel_rfl) rfl civil_number_an civil_number_spec rfl rfl civil_number_qx

/-! ### noonmark/civil.Days -/
abbrev civil_Days_ps : Ty := T_api_Day
abbrev civil_Days_rs : Ty := T_api_At
def civil_Days_sp : Specs := look [(58, .f civil_Right_spec), (59, .f civil_number_spec)]
def civil_Days_an : An := .o
abbrev civil_Days_R := Option D_api_At

def civil_Days_px (n : Nat) (x : D_api_Day) : civil_Days_R :=
  ((civil_Right n (x.1, (x.2.1, (x.2.2.1, ()))))).bind fun v1 =>
  bif (!v1.1) then
    some ((0 : Int), ((6 : Int), ()))
  else
    ((civil_number n (x.1, (x.2.1, (x.2.2.1, ()))))).bind fun v2 =>
    some (v2.1, ((0 : Int), ()))
def civil_Days (n : Nat) (x : D_api_Day) : civil_Days_R := civil_Days_px n x
theorem civil_Days_ex (n : Nat) (rc : RC civil_Days_R) (x : D_api_Day) : codeR rc Tryd.prog civil_Days_sp n (bodyOf Tryd.f41) civil_Days_an (start civil_Days_ps x (Func.ntmps Tryd.f41)) (kFin Tryd.prog civil_Days_rs Tryd.f41) = civil_Days_px n x := by kernel_rfl
theorem civil_Days_qx (n : Nat) (x : D_api_Day) : codeK Tryd.prog civil_Days_sp n (bodyOf Tryd.f41) civil_Days_an (start civil_Days_ps x (Func.ntmps Tryd.f41)) (kFin Tryd.prog civil_Days_rs Tryd.f41) = civil_Days n x := by
  rw [codeK_R, civil_Days_ex]
  rfl
def civil_Days_spec : Sp := ⟨civil_Days_ps, civil_Days_rs, civil_Days⟩
theorem civil_Days_ok : SoundX Tryd.prog CX 41 (.f civil_Days_spec) := sound_of (look_cons civil_Right_ok (look_cons civil_number_ok look_nil)) Tryd.func41 (by kernel_rfl) rfl civil_Days_an civil_Days_spec rfl rfl civil_Days_qx

/-! ### noonmark/civil.Date -/
abbrev civil_Date_ps : Ty := (.pair (.int .i64) .unit)
abbrev civil_Date_rs : Ty := (.pair (.int .i64) T_api_Day)
def civil_Date_sp : Specs := look [(59, .f civil_number_spec)]
def civil_Date_an : An := (.s .o (.s .o (.s .o (.s .o (.s .o (.s .o (.s .o (.s .o (.s .o (.s .o (.k [] [2,3,4] 0 .o .o)))))))))))
abbrev civil_Date_R := Option (Int × D_api_Day)
noncomputable abbrev civil_Date_c0 : Code := (cr (cr (cr (cr (cr (cr (cr (cr (cr (cr (cr (bodyOf Tryd.f57))))))))))))
noncomputable abbrev civil_Date_a0 : An := civil_Date_an.right.right.right.right.right.right.right.right.right.right.right
abbrev civil_Date_t0 := Int × Int × Int
def civil_Date_m0 (z : civil_Date_t0) : St := ⟨(.junk :: .junk :: .v ⟨(.int .i64), z.1⟩ :: .v ⟨(.int .i64), z.2.1⟩ :: .v ⟨(.int .i64), z.2.2⟩ :: jk 71 []), []⟩
def civil_Date_p0 (_n : Nat) (z : civil_Date_t0) : civil_Date_R :=
  some (z.1, (z.2.1, (z.2.2, ((0 : Int), ()))))
def civil_Date_s0 (n : Nat) (z : civil_Date_t0) : civil_Date_R := civil_Date_p0 n z
theorem civil_Date_e0 (n : Nat) (rc : RC civil_Date_R) (z : civil_Date_t0) : codeR rc Tryd.prog civil_Date_sp n civil_Date_c0 civil_Date_a0 (civil_Date_m0 z) (kFin Tryd.prog civil_Date_rs Tryd.f57) = civil_Date_p0 n z := by kernel_rfl
theorem civil_Date_q0 (n : Nat) (z : civil_Date_t0) : codeK Tryd.prog civil_Date_sp n civil_Date_c0 civil_Date_a0 (civil_Date_m0 z) (kFin Tryd.prog civil_Date_rs Tryd.f57) = civil_Date_s0 n z := by
  rw [codeK_R, civil_Date_e0]
  rfl
def civil_Date_px (n : Nat) (k0 : civil_Date_t0 → civil_Date_R) (x : (Int × Unit)) : civil_Date_R :=
  ((civil_number n ((-9999 : Int), ((1 : Int), ((1 : Int), ()))))).bind fun v1 =>
  bif (decide (x.1 < v1.1)) then
    some ((0 : Int), ((0 : Int), ((0 : Int), ((2 : Int), ()))))
  else
    ((civil_number n ((9999 : Int), ((12 : Int), ((31 : Int), ()))))).bind fun v2 =>
    bif (decide (x.1 > v2.1)) then
      some ((0 : Int), ((0 : Int), ((0 : Int), ((2 : Int), ()))))
    else
      let t3 := w64 (x.1 + 5102378)
      let t4 := w64 (Int.tdiv t3 (146097 : Int))
      let t6 := w64 (t3 - (w64 (t4 * 146097)))
      let t13 := w64 (Int.tdiv (w64 ((w64 ((w64 (t6 - (w64 (Int.tdiv t6 (1460 : Int))))) + (w64 (Int.tdiv t6 (36524 : Int))))) - (w64 (Int.tdiv t6 (146096 : Int))))) (365 : Int))
      let t19 := w64 (t6 - (w64 ((w64 ((w64 (365 * t13)) + (w64 (Int.tdiv t13 (4 : Int))))) - (w64 (Int.tdiv t13 (100 : Int))))))
      let t22 := w64 (Int.tdiv (w64 ((w64 (5 * t19)) + 2)) (153 : Int))
      let t27 := w64 ((w64 (t19 - (w64 (Int.tdiv (w64 ((w64 (153 * t22)) + 2)) (5 : Int))))) + 1)
      let t30 := w64 ((w64 (t13 + (w64 (t4 * 400)))) - 12000)
      let t31 := w64 (t22 + 3)
      bif (decide (t31 > 12)) then
        k0 ((w64 (t30 + 1)), (w64 (t31 - 12)), t27)
      else
        k0 (t30, t31, t27)
def civil_Date (n : Nat) (x : (Int × Unit)) : civil_Date_R := civil_Date_px n (civil_Date_s0 n) x
theorem civil_Date_ex (n : Nat) (rc : RC civil_Date_R) (x : (Int × Unit)) : codeR rc Tryd.prog civil_Date_sp n (bodyOf Tryd.f57) civil_Date_an (start civil_Date_ps x (Func.ntmps Tryd.f57)) (kFin Tryd.prog civil_Date_rs Tryd.f57) = civil_Date_px n (fun y => rc civil_Date_c0 civil_Date_a0 (civil_Date_m0 y) (kFin Tryd.prog civil_Date_rs Tryd.f57)) x := by kernel_rfl
theorem civil_Date_qx (n : Nat) (x : (Int × Unit)) : codeK Tryd.prog civil_Date_sp n (bodyOf Tryd.f57) civil_Date_an (start civil_Date_ps x (Func.ntmps Tryd.f57)) (kFin Tryd.prog civil_Date_rs Tryd.f57) = civil_Date n x := by
  have h0 : (fun y => codeK Tryd.prog civil_Date_sp n civil_Date_c0 civil_Date_a0 (civil_Date_m0 y) (kFin Tryd.prog civil_Date_rs Tryd.f57)) = (civil_Date_s0 n) := funext fun y => by
    have := civil_Date_q0 n  y
    exact this
  rw [codeK_R, civil_Date_ex]
  rw [h0]
  rfl
def civil_Date_spec : Sp := ⟨civil_Date_ps, civil_Date_rs, civil_Date⟩
theorem civil_Date_ok : SoundX Tryd.prog CX 57 (.f civil_Date_spec) := sound_of (look_cons civil_number_ok look_nil) Tryd.func57 (by kernel_rfl) rfl civil_Date_an civil_Date_spec rfl rfl civil_Date_qx

/-! ### noonmark/posix.on -/
abbrev posix_on_ps : Ty := (.pair T_noonmarkref17_Edge .unit)
abbrev posix_on_rs : Ty := (.pair (.int .i64) (.pair T_api_Day .unit))
def posix_on_sp : Specs := look [(41, .f civil_Days_spec), (57, .f civil_Date_spec)]
def posix_on_an : An := .o
abbrev posix_on_R := Option (Int × (D_api_Day × Unit))

def posix_on_px (n : Nat) (x : (D_noonmarkref17_Edge × Unit)) : posix_on_R :=
  bif x.1.1 then
    ((civil_Days n ((2001 : Int), ((1 : Int), ((1 : Int), ()))))).bind fun v1 =>
    ((civil_Date n ((w64 ((w64 (v1.1 + x.1.2.1)) - 1)), ()))).bind fun v4 =>
    some (v4.2.1, (((0 : Int), (v4.2.2.1, ((0 : Int), ()))), ()))
  else
    bif (x.1.2.2.2.1 == 5) then
      some (x.1.2.2.1, (((1 : Int), ((0 : Int), (x.1.2.1, ()))), ()))
    else
      some (x.1.2.2.1, (((2 : Int), ((w64 ((w64 (7 * x.1.2.2.2.1)) - 6)), (x.1.2.1, ()))), ()))
def posix_on (n : Nat) (x : (D_noonmarkref17_Edge × Unit)) : posix_on_R := posix_on_px n x
theorem posix_on_ex (n : Nat) (rc : RC posix_on_R) (x : (D_noonmarkref17_Edge × Unit)) : codeR rc Tryd.prog posix_on_sp n (bodyOf Tryd.f40) posix_on_an (start posix_on_ps x (Func.ntmps Tryd.f40)) (kFin Tryd.prog posix_on_rs Tryd.f40) = posix_on_px n x := by kernel_rfl
theorem posix_on_qx (n : Nat) (x : (D_noonmarkref17_Edge × Unit)) : codeK Tryd.prog posix_on_sp n (bodyOf Tryd.f40) posix_on_an (start posix_on_ps x (Func.ntmps Tryd.f40)) (kFin Tryd.prog posix_on_rs Tryd.f40) = posix_on n x := by
  rw [codeK_R, posix_on_ex]
  rfl
def posix_on_spec : Sp := ⟨posix_on_ps, posix_on_rs, posix_on⟩
theorem posix_on_ok : SoundX Tryd.prog CX 40 (.f posix_on_spec) := sound_of (look_cons civil_Days_ok (look_cons civil_Date_ok look_nil)) Tryd.func40 (by kernel_rfl) rfl posix_on_an posix_on_spec rfl rfl posix_on_qx

/-! ### noonmark/civil.Week -/
abbrev civil_Week_ps : Ty := (.pair (.int .i64) .unit)
abbrev civil_Week_rs : Ty := (.pair (.int .i64) .unit)
def civil_Week_sp : Specs := look []
def civil_Week_an : An := (.s .o (.s .o (.k [] [3] 0 .o .o)))
abbrev civil_Week_R := Option (Int × Unit)
noncomputable abbrev civil_Week_c0 : Code := (cr (cr (cr (bodyOf Tryd.f42))))
noncomputable abbrev civil_Week_a0 : An := civil_Week_an.right.right.right
abbrev civil_Week_t0 := Int
def civil_Week_m0 (z : civil_Week_t0) : St := ⟨(jk 3 (.v ⟨(.int .i64), z⟩ :: jk 9 [])), []⟩
def civil_Week_p0 (_n : Nat) (z : civil_Week_t0) : civil_Week_R :=
  some (z, ())
def civil_Week_s0 (n : Nat) (z : civil_Week_t0) : civil_Week_R := civil_Week_p0 n z
theorem civil_Week_e0 (n : Nat) (rc : RC civil_Week_R) (z : civil_Week_t0) : codeR rc Tryd.prog civil_Week_sp n civil_Week_c0 civil_Week_a0 (civil_Week_m0 z) (kFin Tryd.prog civil_Week_rs Tryd.f42) = civil_Week_p0 n z := by kernel_rfl
theorem civil_Week_q0 (n : Nat) (z : civil_Week_t0) : codeK Tryd.prog civil_Week_sp n civil_Week_c0 civil_Week_a0 (civil_Week_m0 z) (kFin Tryd.prog civil_Week_rs Tryd.f42) = civil_Week_s0 n z := by
  rw [codeK_R, civil_Week_e0]
  rfl
def civil_Week_px (_n : Nat) (k0 : civil_Week_t0 → civil_Week_R) (x : (Int × Unit)) : civil_Week_R :=
  let t3 := Int.tmod (w64 ((Int.tmod x.1 (7 : Int)) + 4)) (7 : Int)
  bif (decide (t3 < 0)) then
    k0 (w64 (t3 + 7))
  else
    k0 t3
def civil_Week (n : Nat) (x : (Int × Unit)) : civil_Week_R := civil_Week_px n (civil_Week_s0 n) x
theorem civil_Week_ex (n : Nat) (rc : RC civil_Week_R) (x : (Int × Unit)) : codeR rc Tryd.prog civil_Week_sp n (bodyOf Tryd.f42) civil_Week_an (start civil_Week_ps x (Func.ntmps Tryd.f42)) (kFin Tryd.prog civil_Week_rs Tryd.f42) = civil_Week_px n (fun y => rc civil_Week_c0 civil_Week_a0 (civil_Week_m0 y) (kFin Tryd.prog civil_Week_rs Tryd.f42)) x := by kernel_rfl
theorem civil_Week_qx (n : Nat) (x : (Int × Unit)) : codeK Tryd.prog civil_Week_sp n (bodyOf Tryd.f42) civil_Week_an (start civil_Week_ps x (Func.ntmps Tryd.f42)) (kFin Tryd.prog civil_Week_rs Tryd.f42) = civil_Week n x := by
  have h0 : (fun y => codeK Tryd.prog civil_Week_sp n civil_Week_c0 civil_Week_a0 (civil_Week_m0 y) (kFin Tryd.prog civil_Week_rs Tryd.f42)) = (civil_Week_s0 n) := funext fun y => by
    have := civil_Week_q0 n  y
    exact this
  rw [codeK_R, civil_Week_ex]
  rw [h0]
  rfl
def civil_Week_spec : Sp := ⟨civil_Week_ps, civil_Week_rs, civil_Week⟩
theorem civil_Week_ok : SoundX Tryd.prog CX 42 (.f civil_Week_spec) := sound_of look_nil Tryd.func42 (by kernel_rfl) rfl civil_Week_an civil_Week_spec rfl rfl civil_Week_qx

/-! ### noonmark/posix.number -/
abbrev posix_number_ps : Ty := (.pair T_noonmarkref17_Edge (.pair (.int .i64) .unit))
abbrev posix_number_rs : Ty := (.pair (.int .i64) .unit)
def posix_number_sp : Specs := look [(40, .f posix_on_spec), (41, .f civil_Days_spec), (42, .f civil_Week_spec), (43, .f civil_Long_spec)]
def posix_number_an : An := (.s .o (.s .o (.s .o (.s .o (.k [] [1,2,9,11] 1 .o (.k [] [9,11] 0 (.b (.l [] [1,2,9,11] 1 .o)) .o))))))
abbrev posix_number_R := Option (Int × Unit)
noncomputable abbrev posix_number_c0 : Code := (cl (cl (cl (cr (cr (cr (cr (cr (bodyOf Tryd.f27)))))))))
noncomputable abbrev posix_number_c1 : Code := (cr (cr (cr (cr (cr (cr (bodyOf Tryd.f27)))))))
noncomputable abbrev posix_number_c2 : Code := (cr (cr (cr (cr (cr (bodyOf Tryd.f27))))))
noncomputable abbrev posix_number_a0 : An := posix_number_an.right.right.right.right.right.left.left.left
noncomputable abbrev posix_number_a1 : An := posix_number_an.right.right.right.right.right
noncomputable abbrev posix_number_a2 : An := posix_number_an.right.right.right.right.right.left.left
noncomputable abbrev posix_number_a3 : An := posix_number_an.right.right.right.right.right.right
noncomputable abbrev posix_number_K0 (r2 k1 : St → posix_number_R) : Ex → St → posix_number_R := (kSeq r2 posix_number_a2 (kBlk 0 (kSeq k1 posix_number_a1 (kFin Tryd.prog posix_number_rs Tryd.f27))))
abbrev posix_number_t0 := Int × Int × Int × D_noonmarkref17_Edge
def posix_number_m0 (z : posix_number_t0) : St := ⟨(.junk :: .v ⟨(.int .i64), z.1⟩ :: .v ⟨(.ptr 0 0 T_noonmarkref17_Edge), ()⟩ :: jk 6 (.v ⟨(.int .i64), z.2.1⟩ :: .junk :: .v ⟨(.int .i64), z.2.2.1⟩ :: jk 47 [])), [some (.one ⟨T_noonmarkref17_Edge, z.2.2.2⟩)]⟩
abbrev posix_number_t1 := Int × Int
def posix_number_m1 (z : posix_number_t1) : St := ⟨(jk 9 (.v ⟨(.int .i64), z.1⟩ :: .junk :: .v ⟨(.int .i64), z.2⟩ :: jk 47 [])), []⟩
abbrev posix_number_t2 := Int × Int × Int × D_noonmarkref17_Edge
def posix_number_m2 (z : posix_number_t2) : St := ⟨(.junk :: .v ⟨(.int .i64), z.1⟩ :: .v ⟨(.ptr 0 0 T_noonmarkref17_Edge), ()⟩ :: jk 6 (.v ⟨(.int .i64), z.2.1⟩ :: .junk :: .v ⟨(.int .i64), z.2.2.1⟩ :: jk 47 [])), [some (.one ⟨T_noonmarkref17_Edge, z.2.2.2⟩)]⟩
def posix_number_p2 (n : Nat) (k1 : posix_number_t1 → posix_number_R) (r2 : posix_number_t2 → posix_number_R) (z : posix_number_t2) : posix_number_R :=
  ((civil_Long n (z.1, (z.2.2.2.2.2.1, ())))).bind fun v11 =>
  bif (decide (z.2.2.1 ≥ v11.1)) then
    r2 (z.1, z.2.1, (w64 (z.2.2.1 - 7)), z.2.2.2)
  else
    k1 (z.2.1, z.2.2.1)
def posix_number_s2 (n : Nat) (k1 : posix_number_t1 → posix_number_R) (r2 : posix_number_t2 → posix_number_R) (z : posix_number_t2) : posix_number_R := posix_number_p2 n k1 r2 z
theorem posix_number_e2 (n : Nat) (k1 : St → posix_number_R) (r2 : St → posix_number_R) (rc : RC posix_number_R) (z : posix_number_t2) : codeR rc Tryd.prog posix_number_sp n posix_number_c0 posix_number_a0 (posix_number_m2 z) (posix_number_K0 r2 k1) = posix_number_p2 n (fun y => k1 (posix_number_m1 y)) (fun y => r2 (posix_number_m2 y)) z := by kernel_rfl
theorem posix_number_q2 (n : Nat) (k1 : St → posix_number_R) (r2 : St → posix_number_R) (z : posix_number_t2) : codeK Tryd.prog posix_number_sp n posix_number_c0 posix_number_a0 (posix_number_m2 z) (posix_number_K0 r2 k1) = posix_number_s2 n (fun y => k1 (posix_number_m1 y)) (fun y => r2 (posix_number_m2 y)) z := by
  rw [codeK_R, posix_number_e2]
  rfl
def posix_number_p1 (_n : Nat) (z : posix_number_t1) : posix_number_R :=
  some ((w64 (z.1 + z.2)), ())
def posix_number_s1 (n : Nat) (z : posix_number_t1) : posix_number_R := posix_number_p1 n z
theorem posix_number_e1 (n : Nat) (rc : RC posix_number_R) (z : posix_number_t1) : codeR rc Tryd.prog posix_number_sp n posix_number_c1 posix_number_a3 (posix_number_m1 z) (kFin Tryd.prog posix_number_rs Tryd.f27) = posix_number_p1 n z := by kernel_rfl
theorem posix_number_q1 (n : Nat) (z : posix_number_t1) : codeK Tryd.prog posix_number_sp n posix_number_c1 posix_number_a3 (posix_number_m1 z) (kFin Tryd.prog posix_number_rs Tryd.f27) = posix_number_s1 n z := by
  rw [codeK_R, posix_number_e1]
  rfl
def posix_number_s0 (n : Nat) (z : posix_number_t0) : posix_number_R :=
  rounds (fun r2 x' => posix_number_s2 n (posix_number_s1 n) r2 x') n (z.1, z.2.1, z.2.2.1, z.2.2.2)
theorem posix_number_q0 (n : Nat) (z : posix_number_t0) : codeK Tryd.prog posix_number_sp n posix_number_c2 posix_number_a1 (posix_number_m0 z) (kFin Tryd.prog posix_number_rs Tryd.f27) = posix_number_s0 n z :=
  Eq.trans (b := rounds (fun r2 st => codeK Tryd.prog posix_number_sp n posix_number_c0 posix_number_a0 st (posix_number_K0 r2 (fun st => codeK Tryd.prog posix_number_sp n posix_number_c1 posix_number_a3 st (kFin Tryd.prog posix_number_rs Tryd.f27)))) n (posix_number_m2 (z.1, z.2.1, z.2.2.1, z.2.2.2))) (by kernel_rfl) (rounds_mk posix_number_m2 (fun r2 x' => by
    have h1 : (fun y => codeK Tryd.prog posix_number_sp n posix_number_c1 posix_number_a3 (posix_number_m1 y) (kFin Tryd.prog posix_number_rs Tryd.f27)) = (posix_number_s1 n) := funext fun y => by
      have := posix_number_q1 n  y
      exact this
    have := (posix_number_q2 n (fun st => codeK Tryd.prog posix_number_sp n posix_number_c1 posix_number_a3 st (kFin Tryd.prog posix_number_rs Tryd.f27)) r2 x')
    rw [h1] at this
    exact this) n _)
def posix_number_px (n : Nat) (k0 : posix_number_t0 → posix_number_R) (x : (D_noonmarkref17_Edge × (Int × Unit))) : posix_number_R :=
  bif x.1.1 then
    ((posix_on n (x.1, ()))).bind fun v1 =>
    ((civil_Days n (x.2.1, (v1.1, (v1.2.1.2.1, ()))))).bind fun v2 =>
    some (v2.1, ())
  else
    ((civil_Days n (x.2.1, (x.1.2.2.1, ((1 : Int), ()))))).bind fun v3 =>
    ((civil_Week n (v3.1, ()))).bind fun v5 =>
    k0 (x.2.1, v3.1, (w64 ((Int.tmod (w64 ((w64 (7 + x.1.2.1)) - v5.1)) (7 : Int)) + (w64 (7 * (w64 (x.1.2.2.2.1 - 1)))))), x.1)
def posix_number (n : Nat) (x : (D_noonmarkref17_Edge × (Int × Unit))) : posix_number_R := posix_number_px n (posix_number_s0 n) x
theorem posix_number_ex (n : Nat) (rc : RC posix_number_R) (x : (D_noonmarkref17_Edge × (Int × Unit))) : codeR rc Tryd.prog posix_number_sp n (bodyOf Tryd.f27) posix_number_an (start posix_number_ps x (Func.ntmps Tryd.f27)) (kFin Tryd.prog posix_number_rs Tryd.f27) = posix_number_px n (fun y => rc posix_number_c2 posix_number_a1 (posix_number_m0 y) (kFin Tryd.prog posix_number_rs Tryd.f27)) x := by kernel_rfl
theorem posix_number_qx (n : Nat) (x : (D_noonmarkref17_Edge × (Int × Unit))) : codeK Tryd.prog posix_number_sp n (bodyOf Tryd.f27) posix_number_an (start posix_number_ps x (Func.ntmps Tryd.f27)) (kFin Tryd.prog posix_number_rs Tryd.f27) = posix_number n x := by
  have h0 : (fun y => codeK Tryd.prog posix_number_sp n posix_number_c2 posix_number_a1 (posix_number_m0 y) (kFin Tryd.prog posix_number_rs Tryd.f27)) = (posix_number_s0 n) := funext fun y => by
    have := posix_number_q0 n  y
    exact this
  rw [codeK_R, posix_number_ex]
  rw [h0]
  rfl
def posix_number_spec : Sp := ⟨posix_number_ps, posix_number_rs, posix_number⟩
theorem posix_number_ok : SoundX Tryd.prog CX 27 (.f posix_number_spec) := sound_of (look_cons posix_on_ok (look_cons civil_Days_ok (look_cons civil_Week_ok (look_cons civil_Long_ok look_nil)))) Tryd.func27 (by kernel_rfl) rfl posix_number_an posix_number_spec rfl rfl posix_number_qx

/-! ### (noonmark/posix.spec).start -/
abbrev posix_spec_start_ps : Ty := (.pair T_posix_spec (.pair (.int .i64) .unit))
abbrev posix_spec_start_rs : Ty := (.pair (.int .i64) .unit)
def posix_spec_start_sp : Specs := look [(27, .f posix_number_spec)]
def posix_spec_start_an : An := .o
abbrev posix_spec_start_R := Option (Int × Unit)

def posix_spec_start_px (n : Nat) (x : (D_posix_spec × (Int × Unit))) : posix_spec_start_R :=
  ((posix_number n (x.1.1.2.2.2.2.1, (x.2.1, ())))).bind fun v1 =>
  some ((w64 ((w64 ((w64 (v1.1 * 86400)) + x.1.1.2.2.2.2.1.2.2.2.2.1)) - x.1.1.2.1)), ())
def posix_spec_start (n : Nat) (x : (D_posix_spec × (Int × Unit))) : posix_spec_start_R := posix_spec_start_px n x
theorem posix_spec_start_ex (n : Nat) (rc : RC posix_spec_start_R) (x : (D_posix_spec × (Int × Unit))) : codeR rc Tryd.prog posix_spec_start_sp n (bodyOf Tryd.f14) posix_spec_start_an (start posix_spec_start_ps x (Func.ntmps Tryd.f14)) (kFin Tryd.prog posix_spec_start_rs Tryd.f14) = posix_spec_start_px n x := by kernel_rfl
theorem posix_spec_start_qx (n : Nat) (x : (D_posix_spec × (Int × Unit))) : codeK Tryd.prog posix_spec_start_sp n (bodyOf Tryd.f14) posix_spec_start_an (start posix_spec_start_ps x (Func.ntmps Tryd.f14)) (kFin Tryd.prog posix_spec_start_rs Tryd.f14) = posix_spec_start n x := by
  rw [codeK_R, posix_spec_start_ex]
  rfl
def posix_spec_start_spec : Sp := ⟨posix_spec_start_ps, posix_spec_start_rs, posix_spec_start⟩
theorem posix_spec_start_ok : SoundX Tryd.prog CX 14 (.f posix_spec_start_spec) := sound_of (look_cons posix_number_ok look_nil) Tryd.func14 (by kernel_rfl) rfl posix_spec_start_an posix_spec_start_spec rfl rfl posix_spec_start_qx

/-! ### (noonmark/posix.spec).end -/
abbrev posix_spec_end_ps : Ty := (.pair T_posix_spec (.pair (.int .i64) .unit))
abbrev posix_spec_end_rs : Ty := (.pair (.int .i64) .unit)
def posix_spec_end_sp : Specs := look [(27, .f posix_number_spec)]
def posix_spec_end_an : An := .o
abbrev posix_spec_end_R := Option (Int × Unit)

def posix_spec_end_px (n : Nat) (x : (D_posix_spec × (Int × Unit))) : posix_spec_end_R :=
  ((posix_number n (x.1.1.2.2.2.2.2.1, (x.2.1, ())))).bind fun v1 =>
  some ((w64 ((w64 ((w64 (v1.1 * 86400)) + x.1.1.2.2.2.2.2.1.2.2.2.2.1)) - x.1.1.2.2.2.1)), ())
def posix_spec_end (n : Nat) (x : (D_posix_spec × (Int × Unit))) : posix_spec_end_R := posix_spec_end_px n x
theorem posix_spec_end_ex (n : Nat) (rc : RC posix_spec_end_R) (x : (D_posix_spec × (Int × Unit))) : codeR rc Tryd.prog posix_spec_end_sp n (bodyOf Tryd.f15) posix_spec_end_an (start posix_spec_end_ps x (Func.ntmps Tryd.f15)) (kFin Tryd.prog posix_spec_end_rs Tryd.f15) = posix_spec_end_px n x := by kernel_rfl
theorem posix_spec_end_qx (n : Nat) (x : (D_posix_spec × (Int × Unit))) : codeK Tryd.prog posix_spec_end_sp n (bodyOf Tryd.f15) posix_spec_end_an (start posix_spec_end_ps x (Func.ntmps Tryd.f15)) (kFin Tryd.prog posix_spec_end_rs Tryd.f15) = posix_spec_end n x := by
  rw [codeK_R, posix_spec_end_ex]
  rfl
def posix_spec_end_spec : Sp := ⟨posix_spec_end_ps, posix_spec_end_rs, posix_spec_end⟩
theorem posix_spec_end_ok : SoundX Tryd.prog CX 15 (.f posix_spec_end_spec) := sound_of (look_cons posix_number_ok look_nil) Tryd.func15 (by kernel_rfl) rfl posix_spec_end_an posix_spec_end_spec rfl rfl posix_spec_end_qx

/-! ### noonmark/posix.Simple -/
abbrev posix_Simple_ps : Ty := T_posix_spec
abbrev posix_Simple_rs : Ty := T_posix_spec
def posix_Simple_sp : Specs := look [(13, .f footer_Right_spec), (14, .f posix_spec_start_spec), (15, .f posix_spec_end_spec)]
def posix_Simple_an : An := (.s .o (.s .o (.s .o (.k [] [1,2] 2 (.k [] [1,2,3,16] 3 .o (.b (.l [] [1,2,3,16] 3 .o))) .o))))
abbrev posix_Simple_R := Option D_posix_spec
noncomputable abbrev posix_Simple_c0 : Code := (cr (cr (cr (cr (bodyOf Tryd.f6)))))
noncomputable abbrev posix_Simple_c1 : Code := (cl (cl (cr (cl (cr (cr (cr (bodyOf Tryd.f6))))))))
noncomputable abbrev posix_Simple_c2 : Code := (cr (cl (cr (cr (cr (bodyOf Tryd.f6))))))
noncomputable abbrev posix_Simple_a0 : An := posix_Simple_an.right.right.right.right
noncomputable abbrev posix_Simple_a1 : An := posix_Simple_an.right.right.right.left.right.left.left
noncomputable abbrev posix_Simple_a2 : An := posix_Simple_an.right.right.right
noncomputable abbrev posix_Simple_a3 : An := posix_Simple_an.right.right.right.left.right.left
noncomputable abbrev posix_Simple_a4 : An := posix_Simple_an.right.right.right.left.right
noncomputable abbrev posix_Simple_K0 (r2 k0 : St → posix_Simple_R) : Ex → St → posix_Simple_R := (kSeq r2 posix_Simple_a3 (kBlk 0 (kSeq k0 posix_Simple_a2 (kFin Tryd.prog posix_Simple_rs Tryd.f6))))
noncomputable abbrev posix_Simple_K1 (k0 : St → posix_Simple_R) : Ex → St → posix_Simple_R := (kSeq k0 posix_Simple_a2 (kFin Tryd.prog posix_Simple_rs Tryd.f6))
abbrev posix_Simple_t0 := D_noonmarkref17_Spec × D_noonmarkref17_Spec
def posix_Simple_m0 (z : posix_Simple_t0) : St := ⟨(.junk :: .v ⟨(.ptr 0 0 T_noonmarkref17_Spec), ()⟩ :: .v ⟨(.ptr 1 0 T_noonmarkref17_Spec), ()⟩ :: jk 32 []), [some (.one ⟨T_noonmarkref17_Spec, z.1⟩), some (.one ⟨T_noonmarkref17_Spec, z.2⟩)]⟩
abbrev posix_Simple_t1 := Int × D_noonmarkref17_Spec × D_noonmarkref17_Spec × D_posix_spec
def posix_Simple_m1 (z : posix_Simple_t1) : St := ⟨(.junk :: .v ⟨(.ptr 0 0 T_noonmarkref17_Spec), ()⟩ :: .v ⟨(.ptr 1 0 T_noonmarkref17_Spec), ()⟩ :: .v ⟨(.ptr 2 0 T_posix_spec), ()⟩ :: jk 12 (.v ⟨(.int .i64), z.1⟩ :: jk 18 [])), [some (.one ⟨T_noonmarkref17_Spec, z.2.1⟩), some (.one ⟨T_noonmarkref17_Spec, z.2.2.1⟩), some (.one ⟨T_posix_spec, z.2.2.2⟩)]⟩
abbrev posix_Simple_t2 := Int × D_noonmarkref17_Spec × D_noonmarkref17_Spec × D_posix_spec
def posix_Simple_m2 (z : posix_Simple_t2) : St := ⟨(.junk :: .v ⟨(.ptr 0 0 T_noonmarkref17_Spec), ()⟩ :: .v ⟨(.ptr 1 0 T_noonmarkref17_Spec), ()⟩ :: .v ⟨(.ptr 2 0 T_posix_spec), ()⟩ :: jk 12 (.v ⟨(.int .i64), z.1⟩ :: jk 18 [])), [some (.one ⟨T_noonmarkref17_Spec, z.2.1⟩), some (.one ⟨T_noonmarkref17_Spec, z.2.2.1⟩), some (.one ⟨T_posix_spec, z.2.2.2⟩)]⟩
def posix_Simple_p0 (_n : Nat) (z : posix_Simple_t0) : posix_Simple_R :=
  some ((z.1.1, (z.1.2.1, ((⟨#[]⟩ : ByteArray), ((0 : Int), ((false, ((0 : Int), ((0 : Int), ((0 : Int), ((0 : Int), ()))))), ((false, ((0 : Int), ((0 : Int), ((0 : Int), ((0 : Int), ()))))), ())))))), ())
def posix_Simple_s0 (n : Nat) (z : posix_Simple_t0) : posix_Simple_R := posix_Simple_p0 n z
theorem posix_Simple_e0 (n : Nat) (rc : RC posix_Simple_R) (z : posix_Simple_t0) : codeR rc Tryd.prog posix_Simple_sp n posix_Simple_c0 posix_Simple_a0 (posix_Simple_m0 z) (kFin Tryd.prog posix_Simple_rs Tryd.f6) = posix_Simple_p0 n z := by kernel_rfl
theorem posix_Simple_q0 (n : Nat) (z : posix_Simple_t0) : codeK Tryd.prog posix_Simple_sp n posix_Simple_c0 posix_Simple_a0 (posix_Simple_m0 z) (kFin Tryd.prog posix_Simple_rs Tryd.f6) = posix_Simple_s0 n z := by
  rw [codeK_R, posix_Simple_e0]
  rfl
def posix_Simple_p2 (n : Nat) (k0 : posix_Simple_t0 → posix_Simple_R) (r2 : posix_Simple_t2 → posix_Simple_R) (z : posix_Simple_t2) : posix_Simple_R :=
  bif (decide (z.1 < 400)) then
    ((posix_spec_start n (z.2.2.2, ((w64 (z.1 + 1)), ())))).bind fun v3 =>
    ((posix_spec_end n (z.2.2.2, ((w64 (z.1 + 1)), ())))).bind fun v5 =>
    bif (v3.1 != v5.1) then
      some (z.2.1, ())
    else
      r2 ((w64 (z.1 + 1)), z.2.1, z.2.2.1, z.2.2.2)
  else
    k0 (z.2.1, z.2.2.1)
def posix_Simple_s2 (n : Nat) (k0 : posix_Simple_t0 → posix_Simple_R) (r2 : posix_Simple_t2 → posix_Simple_R) (z : posix_Simple_t2) : posix_Simple_R := posix_Simple_p2 n k0 r2 z
theorem posix_Simple_e2 (n : Nat) (k0 : St → posix_Simple_R) (r2 : St → posix_Simple_R) (rc : RC posix_Simple_R) (z : posix_Simple_t2) : codeR rc Tryd.prog posix_Simple_sp n posix_Simple_c1 posix_Simple_a1 (posix_Simple_m2 z) (posix_Simple_K0 r2 k0) = posix_Simple_p2 n (fun y => k0 (posix_Simple_m0 y)) (fun y => r2 (posix_Simple_m2 y)) z := by kernel_rfl
theorem posix_Simple_q2 (n : Nat) (k0 : St → posix_Simple_R) (r2 : St → posix_Simple_R) (z : posix_Simple_t2) : codeK Tryd.prog posix_Simple_sp n posix_Simple_c1 posix_Simple_a1 (posix_Simple_m2 z) (posix_Simple_K0 r2 k0) = posix_Simple_s2 n (fun y => k0 (posix_Simple_m0 y)) (fun y => r2 (posix_Simple_m2 y)) z := by
  rw [codeK_R, posix_Simple_e2]
  rfl
def posix_Simple_s1 (n : Nat) (k0 : posix_Simple_t0 → posix_Simple_R) (z : posix_Simple_t1) : posix_Simple_R :=
  rounds (fun r2 x' => posix_Simple_s2 n k0 r2 x') n (z.1, z.2.1, z.2.2.1, z.2.2.2)
theorem posix_Simple_q1 (n : Nat) (k0 : St → posix_Simple_R) (z : posix_Simple_t1) : codeK Tryd.prog posix_Simple_sp n posix_Simple_c2 posix_Simple_a4 (posix_Simple_m1 z) (posix_Simple_K1 k0) = posix_Simple_s1 n (fun y => k0 (posix_Simple_m0 y)) z :=
  Eq.trans (b := rounds (fun r2 st => codeK Tryd.prog posix_Simple_sp n posix_Simple_c1 posix_Simple_a1 st (posix_Simple_K0 r2 k0)) n (posix_Simple_m2 (z.1, z.2.1, z.2.2.1, z.2.2.2))) (by kernel_rfl) (rounds_mk posix_Simple_m2 (fun r2 x' => by
    have := (posix_Simple_q2 n k0 r2 x')
    exact this) n _)
def posix_Simple_px (n : Nat) (k0 : posix_Simple_t0 → posix_Simple_R) (k1 : posix_Simple_t1 → posix_Simple_R) (x : D_posix_spec) : posix_Simple_R :=
  ((footer_Right n (x.1, ()))).bind fun v1 =>
  bif (!v1.1) then
    some (x.1, ())
  else
    bif (x.1.2.2.1.toList == (⟨#[]⟩ : ByteArray).toList) then
      some (x.1, ())
    else
      k1 ((0 : Int), x.1, ((⟨#[]⟩ : ByteArray), ((0 : Int), ((⟨#[]⟩ : ByteArray), ((0 : Int), ((false, ((0 : Int), ((0 : Int), ((0 : Int), ((0 : Int), ()))))), ((false, ((0 : Int), ((0 : Int), ((0 : Int), ((0 : Int), ()))))), ())))))), (x.1, ()))
def posix_Simple (n : Nat) (x : D_posix_spec) : posix_Simple_R := posix_Simple_px n (posix_Simple_s0 n) (posix_Simple_s1 n (posix_Simple_s0 n)) x
theorem posix_Simple_ex (n : Nat) (rc : RC posix_Simple_R) (x : D_posix_spec) : codeR rc Tryd.prog posix_Simple_sp n (bodyOf Tryd.f6) posix_Simple_an (start posix_Simple_ps x (Func.ntmps Tryd.f6)) (kFin Tryd.prog posix_Simple_rs Tryd.f6) = posix_Simple_px n (fun y => rc posix_Simple_c0 posix_Simple_a0 (posix_Simple_m0 y) (kFin Tryd.prog posix_Simple_rs Tryd.f6)) (fun y => rc posix_Simple_c2 posix_Simple_a4 (posix_Simple_m1 y) (posix_Simple_K1 (fun st => rc posix_Simple_c0 posix_Simple_a0 st (kFin Tryd.prog posix_Simple_rs Tryd.f6)))) x := by kernel_rfl
theorem posix_Simple_qx (n : Nat) (x : D_posix_spec) : codeK Tryd.prog posix_Simple_sp n (bodyOf Tryd.f6) posix_Simple_an (start posix_Simple_ps x (Func.ntmps Tryd.f6)) (kFin Tryd.prog posix_Simple_rs Tryd.f6) = posix_Simple n x := by
  have h0 : (fun y => codeK Tryd.prog posix_Simple_sp n posix_Simple_c0 posix_Simple_a0 (posix_Simple_m0 y) (kFin Tryd.prog posix_Simple_rs Tryd.f6)) = (posix_Simple_s0 n) := funext fun y => by
    have := posix_Simple_q0 n  y
    exact this
  have h1 : (fun y => codeK Tryd.prog posix_Simple_sp n posix_Simple_c2 posix_Simple_a4 (posix_Simple_m1 y) (posix_Simple_K1 (fun st => codeK Tryd.prog posix_Simple_sp n posix_Simple_c0 posix_Simple_a0 st (kFin Tryd.prog posix_Simple_rs Tryd.f6)))) = (posix_Simple_s1 n (posix_Simple_s0 n)) := funext fun y => by
    have := posix_Simple_q1 n (fun st => codeK Tryd.prog posix_Simple_sp n posix_Simple_c0 posix_Simple_a0 st (kFin Tryd.prog posix_Simple_rs Tryd.f6)) y
    rw [h0] at this; exact this
  rw [codeK_R, posix_Simple_ex]
  rw [h0]
  rw [h1]
  rfl
def posix_Simple_spec : Sp := ⟨posix_Simple_ps, posix_Simple_rs, posix_Simple⟩
theorem posix_Simple_ok : SoundX Tryd.prog CX 6 (.f posix_Simple_spec) := sound_of (look_cons footer_Right_ok (look_cons posix_spec_start_ok (look_cons posix_spec_end_ok look_nil))) Tryd.func6 (by kernel_rfl) rfl posix_Simple_an posix_Simple_spec rfl rfl posix_Simple_qx

/-! ### noonmark/noonmarklaw17.edge -/
abbrev noonmarklaw17_edge_ps : Ty := (.pair T_noonmarkref17_Edge .unit)
abbrev noonmarklaw17_edge_rs : Ty := (.pair T_noonmarkref17_Edge .unit)
def noonmarklaw17_edge_sp : Specs := look []
def noonmarklaw17_edge_an : An := .o
abbrev noonmarklaw17_edge_R := Option (D_noonmarkref17_Edge × Unit)

def noonmarklaw17_edge_px (_n : Nat) (x : (D_noonmarkref17_Edge × Unit)) : noonmarklaw17_edge_R :=
  some ((x.1.1, (x.1.2.1, (x.1.2.2.1, (x.1.2.2.2.1, (x.1.2.2.2.2.1, ()))))), ())
def noonmarklaw17_edge (n : Nat) (x : (D_noonmarkref17_Edge × Unit)) : noonmarklaw17_edge_R := noonmarklaw17_edge_px n x
theorem noonmarklaw17_edge_ex (n : Nat) (rc : RC noonmarklaw17_edge_R) (x : (D_noonmarkref17_Edge × Unit)) : codeR rc Tryd.prog noonmarklaw17_edge_sp n (bodyOf Tryd.f16) noonmarklaw17_edge_an (start noonmarklaw17_edge_ps x (Func.ntmps Tryd.f16)) (kFin Tryd.prog noonmarklaw17_edge_rs Tryd.f16) = noonmarklaw17_edge_px n x := by kernel_rfl
theorem noonmarklaw17_edge_qx (n : Nat) (x : (D_noonmarkref17_Edge × Unit)) : codeK Tryd.prog noonmarklaw17_edge_sp n (bodyOf Tryd.f16) noonmarklaw17_edge_an (start noonmarklaw17_edge_ps x (Func.ntmps Tryd.f16)) (kFin Tryd.prog noonmarklaw17_edge_rs Tryd.f16) = noonmarklaw17_edge n x := by
  rw [codeK_R, noonmarklaw17_edge_ex]
  rfl
def noonmarklaw17_edge_spec : Sp := ⟨noonmarklaw17_edge_ps, noonmarklaw17_edge_rs, noonmarklaw17_edge⟩
theorem noonmarklaw17_edge_ok : SoundX Tryd.prog CX 16 (.f noonmarklaw17_edge_spec) := sound_of look_nil Tryd.func16 (by kernel_rfl) rfl noonmarklaw17_edge_an noonmarklaw17_edge_spec rfl rfl noonmarklaw17_edge_qx

/-! ### noonmark/noonmarklaw17.Own -/
abbrev noonmarklaw17_Own_ps : Ty := T_posix_spec
abbrev noonmarklaw17_Own_rs : Ty := T_posix_spec
def noonmarklaw17_Own_sp : Specs := look [(16, .f noonmarklaw17_edge_spec)]
def noonmarklaw17_Own_an : An := .o
abbrev noonmarklaw17_Own_R := Option D_posix_spec

def noonmarklaw17_Own_px (n : Nat) (x : D_posix_spec) : noonmarklaw17_Own_R :=
  ((noonmarklaw17_edge n (x.1.2.2.2.2.1, ()))).bind fun v1 =>
  ((noonmarklaw17_edge n (x.1.2.2.2.2.2.1, ()))).bind fun v2 =>
  some ((x.1.1, (x.1.2.1, (x.1.2.2.1, (x.1.2.2.2.1, (v1.1, (v2.1, ())))))), ())
def noonmarklaw17_Own (n : Nat) (x : D_posix_spec) : noonmarklaw17_Own_R := noonmarklaw17_Own_px n x
theorem noonmarklaw17_Own_ex (n : Nat) (rc : RC noonmarklaw17_Own_R) (x : D_posix_spec) : codeR rc Tryd.prog noonmarklaw17_Own_sp n (bodyOf Tryd.f7) noonmarklaw17_Own_an (start noonmarklaw17_Own_ps x (Func.ntmps Tryd.f7)) (kFin Tryd.prog noonmarklaw17_Own_rs Tryd.f7) = noonmarklaw17_Own_px n x := by kernel_rfl
theorem noonmarklaw17_Own_qx (n : Nat) (x : D_posix_spec) : codeK Tryd.prog noonmarklaw17_Own_sp n (bodyOf Tryd.f7) noonmarklaw17_Own_an (start noonmarklaw17_Own_ps x (Func.ntmps Tryd.f7)) (kFin Tryd.prog noonmarklaw17_Own_rs Tryd.f7) = noonmarklaw17_Own n x := by
  rw [codeK_R, noonmarklaw17_Own_ex]
  rfl
def noonmarklaw17_Own_spec : Sp := ⟨noonmarklaw17_Own_ps, noonmarklaw17_Own_rs, noonmarklaw17_Own⟩
theorem noonmarklaw17_Own_ok : SoundX Tryd.prog CX 7 (.f noonmarklaw17_Own_spec) := sound_of (look_cons noonmarklaw17_edge_ok look_nil) Tryd.func7 (by kernel_rfl) rfl noonmarklaw17_Own_an noonmarklaw17_Own_spec rfl rfl noonmarklaw17_Own_qx

/-! ### noonmark/noonmarkref16.Plain -/
abbrev noonmarkref16_Plain_ps : Ty := T_footer_reader
abbrev noonmarkref16_Plain_rs : Ty := (.pair .bool .unit)
def noonmarkref16_Plain_sp : Specs := look []
def noonmarkref16_Plain_an : An := (.s .o (.s .o (.k [] [] 0 (.k [] [0,3] 0 .o (.b (.l [] [0,3] 0 (.s .o (.k [] [0,3] 0 (.b (.s .o (.k [] [0,3,52] 0 .o .o))) .o))))) .o)))
abbrev noonmarkref16_Plain_R := Option (Bool × Unit)
noncomputable abbrev noonmarkref16_Plain_c0 : Code := (cr (cr (cr (bodyOf Tryd.f28))))
noncomputable abbrev noonmarkref16_Plain_c1 : Code := (cr (cr (cl (cl (cr (cl (cr (cr (bodyOf Tryd.f28)))))))))
noncomputable abbrev noonmarkref16_Plain_c2 : Code := (cr (cr (cl (cl (cr (cl (cl (cr (cl (cr (cr (bodyOf Tryd.f28))))))))))))
noncomputable abbrev noonmarkref16_Plain_c3 : Code := (cl (cl (cr (cl (cr (cr (bodyOf Tryd.f28)))))))
noncomputable abbrev noonmarkref16_Plain_c4 : Code := (cr (cl (cr (cr (bodyOf Tryd.f28)))))
noncomputable abbrev noonmarkref16_Plain_a0 : An := noonmarkref16_Plain_an.right.right.right
noncomputable abbrev noonmarkref16_Plain_a1 : An := noonmarkref16_Plain_an.right.right.left.right.left.left.right.right
noncomputable abbrev noonmarkref16_Plain_a2 : An := noonmarkref16_Plain_an.right.right
noncomputable abbrev noonmarkref16_Plain_a3 : An := noonmarkref16_Plain_an.right.right.left.right.left
noncomputable abbrev noonmarkref16_Plain_a4 : An := noonmarkref16_Plain_an.right.right.left.right.left.left.right.left.left.right.right
noncomputable abbrev noonmarkref16_Plain_a5 : An := noonmarkref16_Plain_an.right.right.left.right.left.left.right
noncomputable abbrev noonmarkref16_Plain_a6 : An := noonmarkref16_Plain_an.right.right.left.right.left.left
noncomputable abbrev noonmarkref16_Plain_a7 : An := noonmarkref16_Plain_an.right.right.left.right
noncomputable abbrev noonmarkref16_Plain_K0 (r2 k0 : St → noonmarkref16_Plain_R) : Ex → St → noonmarkref16_Plain_R := (kSeq r2 noonmarkref16_Plain_a3 (kBlk 0 (kSeq k0 noonmarkref16_Plain_a2 (kFin Tryd.prog noonmarkref16_Plain_rs Tryd.f28))))
noncomputable abbrev noonmarkref16_Plain_K1 (k3 r2 k0 : St → noonmarkref16_Plain_R) : Ex → St → noonmarkref16_Plain_R := (kBlk 1 (kSeq k3 noonmarkref16_Plain_a5 (kSeq r2 noonmarkref16_Plain_a3 (kBlk 0 (kSeq k0 noonmarkref16_Plain_a2 (kFin Tryd.prog noonmarkref16_Plain_rs Tryd.f28))))))
noncomputable abbrev noonmarkref16_Plain_K2 (r2 k0 : St → noonmarkref16_Plain_R) : Ex → St → noonmarkref16_Plain_R := (kSeq r2 noonmarkref16_Plain_a3 (kBlk 0 (kSeq k0 noonmarkref16_Plain_a2 (kFin Tryd.prog noonmarkref16_Plain_rs Tryd.f28))))
noncomputable abbrev noonmarkref16_Plain_K3 (k0 : St → noonmarkref16_Plain_R) : Ex → St → noonmarkref16_Plain_R := (kSeq k0 noonmarkref16_Plain_a2 (kFin Tryd.prog noonmarkref16_Plain_rs Tryd.f28))
abbrev noonmarkref16_Plain_t0 := Unit
def noonmarkref16_Plain_m0 (_z : noonmarkref16_Plain_t0) : St := ⟨(jk 53 []), []⟩
abbrev noonmarkref16_Plain_t1 := ByteArray × Int
def noonmarkref16_Plain_m1 (z : noonmarkref16_Plain_t1) : St := ⟨(.v ⟨.str, z.1⟩ :: .junk :: .junk :: .v ⟨(.int .i64), z.2⟩ :: jk 49 []), []⟩
abbrev noonmarkref16_Plain_t2 := ByteArray × Int
def noonmarkref16_Plain_m2 (z : noonmarkref16_Plain_t2) : St := ⟨(.v ⟨.str, z.1⟩ :: .junk :: .junk :: .v ⟨(.int .i64), z.2⟩ :: jk 49 []), []⟩
abbrev noonmarkref16_Plain_t3 := ByteArray × Int
def noonmarkref16_Plain_m3 (z : noonmarkref16_Plain_t3) : St := ⟨(.v ⟨.str, z.1⟩ :: .junk :: .junk :: .v ⟨(.int .i64), z.2⟩ :: jk 49 []), []⟩
abbrev noonmarkref16_Plain_t4 := ByteArray × Int × Bool
def noonmarkref16_Plain_m4 (z : noonmarkref16_Plain_t4) : St := ⟨(.v ⟨.str, z.1⟩ :: .junk :: .junk :: .v ⟨(.int .i64), z.2.1⟩ :: jk 48 (.v ⟨.bool, z.2.2⟩ :: [])), []⟩
def noonmarkref16_Plain_p0 (_n : Nat) (_z : noonmarkref16_Plain_t0) : noonmarkref16_Plain_R :=
  some (true, ())
def noonmarkref16_Plain_s0 (n : Nat) (z : noonmarkref16_Plain_t0) : noonmarkref16_Plain_R := noonmarkref16_Plain_p0 n z
theorem noonmarkref16_Plain_e0 (n : Nat) (rc : RC noonmarkref16_Plain_R) (z : noonmarkref16_Plain_t0) : codeR rc Tryd.prog noonmarkref16_Plain_sp n noonmarkref16_Plain_c0 noonmarkref16_Plain_a0 (noonmarkref16_Plain_m0 z) (kFin Tryd.prog noonmarkref16_Plain_rs Tryd.f28) = noonmarkref16_Plain_p0 n z := by kernel_rfl
theorem noonmarkref16_Plain_q0 (n : Nat) (z : noonmarkref16_Plain_t0) : codeK Tryd.prog noonmarkref16_Plain_sp n noonmarkref16_Plain_c0 noonmarkref16_Plain_a0 (noonmarkref16_Plain_m0 z) (kFin Tryd.prog noonmarkref16_Plain_rs Tryd.f28) = noonmarkref16_Plain_s0 n z := by
  rw [codeK_R, noonmarkref16_Plain_e0]
  rfl
def noonmarkref16_Plain_p3 (_n : Nat) (_k0 : noonmarkref16_Plain_t0 → noonmarkref16_Plain_R) (r2 : noonmarkref16_Plain_t2 → noonmarkref16_Plain_R) (z : noonmarkref16_Plain_t3) : noonmarkref16_Plain_R :=
  r2 (z.1, (w64 (z.2 + 1)))
def noonmarkref16_Plain_s3 (n : Nat) (k0 : noonmarkref16_Plain_t0 → noonmarkref16_Plain_R) (r2 : noonmarkref16_Plain_t2 → noonmarkref16_Plain_R) (z : noonmarkref16_Plain_t3) : noonmarkref16_Plain_R := noonmarkref16_Plain_p3 n k0 r2 z
theorem noonmarkref16_Plain_e3 (n : Nat) (k0 : St → noonmarkref16_Plain_R) (r2 : St → noonmarkref16_Plain_R) (rc : RC noonmarkref16_Plain_R) (z : noonmarkref16_Plain_t3) : codeR rc Tryd.prog noonmarkref16_Plain_sp n noonmarkref16_Plain_c1 noonmarkref16_Plain_a1 (noonmarkref16_Plain_m3 z) (noonmarkref16_Plain_K0 r2 k0) = noonmarkref16_Plain_p3 n (fun y => k0 (noonmarkref16_Plain_m0 y)) (fun y => r2 (noonmarkref16_Plain_m2 y)) z := by kernel_rfl
theorem noonmarkref16_Plain_q3 (n : Nat) (k0 : St → noonmarkref16_Plain_R) (r2 : St → noonmarkref16_Plain_R) (z : noonmarkref16_Plain_t3) : codeK Tryd.prog noonmarkref16_Plain_sp n noonmarkref16_Plain_c1 noonmarkref16_Plain_a1 (noonmarkref16_Plain_m3 z) (noonmarkref16_Plain_K0 r2 k0) = noonmarkref16_Plain_s3 n (fun y => k0 (noonmarkref16_Plain_m0 y)) (fun y => r2 (noonmarkref16_Plain_m2 y)) z := by
  rw [codeK_R, noonmarkref16_Plain_e3]
  rfl
def noonmarkref16_Plain_p4 (_n : Nat) (_k0 : noonmarkref16_Plain_t0 → noonmarkref16_Plain_R) (_r2 : noonmarkref16_Plain_t2 → noonmarkref16_Plain_R) (k3 : noonmarkref16_Plain_t3 → noonmarkref16_Plain_R) (z : noonmarkref16_Plain_t4) : noonmarkref16_Plain_R :=
  bif z.2.2 then
    some (false, ())
  else
    k3 (z.1, z.2.1)
def noonmarkref16_Plain_s4 (n : Nat) (k0 : noonmarkref16_Plain_t0 → noonmarkref16_Plain_R) (r2 : noonmarkref16_Plain_t2 → noonmarkref16_Plain_R) (k3 : noonmarkref16_Plain_t3 → noonmarkref16_Plain_R) (z : noonmarkref16_Plain_t4) : noonmarkref16_Plain_R := noonmarkref16_Plain_p4 n k0 r2 k3 z
theorem noonmarkref16_Plain_e4 (n : Nat) (k0 : St → noonmarkref16_Plain_R) (r2 : St → noonmarkref16_Plain_R) (k3 : St → noonmarkref16_Plain_R) (rc : RC noonmarkref16_Plain_R) (z : noonmarkref16_Plain_t4) : codeR rc Tryd.prog noonmarkref16_Plain_sp n noonmarkref16_Plain_c2 noonmarkref16_Plain_a4 (noonmarkref16_Plain_m4 z) (noonmarkref16_Plain_K1 k3 r2 k0) = noonmarkref16_Plain_p4 n (fun y => k0 (noonmarkref16_Plain_m0 y)) (fun y => r2 (noonmarkref16_Plain_m2 y)) (fun y => k3 (noonmarkref16_Plain_m3 y)) z := by kernel_rfl
theorem noonmarkref16_Plain_q4 (n : Nat) (k0 : St → noonmarkref16_Plain_R) (r2 : St → noonmarkref16_Plain_R) (k3 : St → noonmarkref16_Plain_R) (z : noonmarkref16_Plain_t4) : codeK Tryd.prog noonmarkref16_Plain_sp n noonmarkref16_Plain_c2 noonmarkref16_Plain_a4 (noonmarkref16_Plain_m4 z) (noonmarkref16_Plain_K1 k3 r2 k0) = noonmarkref16_Plain_s4 n (fun y => k0 (noonmarkref16_Plain_m0 y)) (fun y => r2 (noonmarkref16_Plain_m2 y)) (fun y => k3 (noonmarkref16_Plain_m3 y)) z := by
  rw [codeK_R, noonmarkref16_Plain_e4]
  rfl
def noonmarkref16_Plain_p2 (_n : Nat) (k0 : noonmarkref16_Plain_t0 → noonmarkref16_Plain_R) (_r2 : noonmarkref16_Plain_t2 → noonmarkref16_Plain_R) (k3 : noonmarkref16_Plain_t3 → noonmarkref16_Plain_R) (k4 : noonmarkref16_Plain_t4 → noonmarkref16_Plain_R) (z : noonmarkref16_Plain_t2) : noonmarkref16_Plain_R :=
  bif (decide (z.2 < (ByteArray.size z.1 : Int))) then
    bif decide (0 ≤ z.2) then
      ((z.1[Int.toNat z.2]?)).bind fun c1 =>
      bif (decide ((c1.toNat : Int) ≥ 97)) then
        bif (decide ((c1.toNat : Int) ≤ 122)) then
          k4 (z.1, z.2, false)
        else
          bif (decide ((c1.toNat : Int) ≥ 65)) then
            bif (decide ((c1.toNat : Int) ≤ 90)) then
              k4 (z.1, z.2, false)
            else
              bif (decide ((c1.toNat : Int) ≥ 48)) then
                bif (decide ((c1.toNat : Int) ≤ 57)) then
                  k4 (z.1, z.2, false)
                else
                  bif ((c1.toNat : Int) == 43) then
                    k4 (z.1, z.2, false)
                  else
                    k4 (z.1, z.2, (!((c1.toNat : Int) == 45)))
              else
                bif ((c1.toNat : Int) == 43) then
                  k4 (z.1, z.2, false)
                else
                  k4 (z.1, z.2, (!((c1.toNat : Int) == 45)))
          else
            bif (decide ((c1.toNat : Int) ≥ 48)) then
              bif (decide ((c1.toNat : Int) ≤ 57)) then
                k4 (z.1, z.2, false)
              else
                bif ((c1.toNat : Int) == 43) then
                  k4 (z.1, z.2, false)
                else
                  k4 (z.1, z.2, (!((c1.toNat : Int) == 45)))
            else
              bif ((c1.toNat : Int) == 43) then
                k4 (z.1, z.2, false)
              else
                k4 (z.1, z.2, (!((c1.toNat : Int) == 45)))
      else
        bif (decide ((c1.toNat : Int) ≥ 65)) then
          bif (decide ((c1.toNat : Int) ≤ 90)) then
            k4 (z.1, z.2, false)
          else
            bif (decide ((c1.toNat : Int) ≥ 48)) then
              bif (decide ((c1.toNat : Int) ≤ 57)) then
                k4 (z.1, z.2, false)
              else
                bif ((c1.toNat : Int) == 43) then
                  k4 (z.1, z.2, false)
                else
                  k4 (z.1, z.2, (!((c1.toNat : Int) == 45)))
            else
              bif ((c1.toNat : Int) == 43) then
                k4 (z.1, z.2, false)
              else
                k4 (z.1, z.2, (!((c1.toNat : Int) == 45)))
        else
          bif (decide ((c1.toNat : Int) ≥ 48)) then
            bif (decide ((c1.toNat : Int) ≤ 57)) then
              k4 (z.1, z.2, false)
            else
              bif ((c1.toNat : Int) == 43) then
                k4 (z.1, z.2, false)
              else
                k4 (z.1, z.2, (!((c1.toNat : Int) == 45)))
          else
            bif ((c1.toNat : Int) == 43) then
              k4 (z.1, z.2, false)
            else
              k4 (z.1, z.2, (!((c1.toNat : Int) == 45)))
    else none
  else
    k0 ()
def noonmarkref16_Plain_s2 (n : Nat) (k0 : noonmarkref16_Plain_t0 → noonmarkref16_Plain_R) (r2 : noonmarkref16_Plain_t2 → noonmarkref16_Plain_R) (z : noonmarkref16_Plain_t2) : noonmarkref16_Plain_R := noonmarkref16_Plain_p2 n k0 r2 (noonmarkref16_Plain_s3 n k0 r2) (noonmarkref16_Plain_s4 n k0 r2 (noonmarkref16_Plain_s3 n k0 r2)) z
theorem noonmarkref16_Plain_e2 (n : Nat) (k0 : St → noonmarkref16_Plain_R) (r2 : St → noonmarkref16_Plain_R) (rc : RC noonmarkref16_Plain_R) (z : noonmarkref16_Plain_t2) : codeR rc Tryd.prog noonmarkref16_Plain_sp n noonmarkref16_Plain_c3 noonmarkref16_Plain_a6 (noonmarkref16_Plain_m2 z) (noonmarkref16_Plain_K2 r2 k0) = noonmarkref16_Plain_p2 n (fun y => k0 (noonmarkref16_Plain_m0 y)) (fun y => r2 (noonmarkref16_Plain_m2 y)) (fun y => rc noonmarkref16_Plain_c1 noonmarkref16_Plain_a1 (noonmarkref16_Plain_m3 y) (noonmarkref16_Plain_K0 r2 k0)) (fun y => rc noonmarkref16_Plain_c2 noonmarkref16_Plain_a4 (noonmarkref16_Plain_m4 y) (noonmarkref16_Plain_K1 (fun st => rc noonmarkref16_Plain_c1 noonmarkref16_Plain_a1 st (noonmarkref16_Plain_K0 r2 k0)) r2 k0)) z := by kernel_rfl
theorem noonmarkref16_Plain_q2 (n : Nat) (k0 : St → noonmarkref16_Plain_R) (r2 : St → noonmarkref16_Plain_R) (z : noonmarkref16_Plain_t2) : codeK Tryd.prog noonmarkref16_Plain_sp n noonmarkref16_Plain_c3 noonmarkref16_Plain_a6 (noonmarkref16_Plain_m2 z) (noonmarkref16_Plain_K2 r2 k0) = noonmarkref16_Plain_s2 n (fun y => k0 (noonmarkref16_Plain_m0 y)) (fun y => r2 (noonmarkref16_Plain_m2 y)) z := by
  have h3 : (fun y => codeK Tryd.prog noonmarkref16_Plain_sp n noonmarkref16_Plain_c1 noonmarkref16_Plain_a1 (noonmarkref16_Plain_m3 y) (noonmarkref16_Plain_K0 r2 k0)) = (noonmarkref16_Plain_s3 n (fun y => k0 (noonmarkref16_Plain_m0 y)) (fun y => r2 (noonmarkref16_Plain_m2 y))) := funext fun y => by
    have := noonmarkref16_Plain_q3 n k0 r2 y
    exact this
  have h4 : (fun y => codeK Tryd.prog noonmarkref16_Plain_sp n noonmarkref16_Plain_c2 noonmarkref16_Plain_a4 (noonmarkref16_Plain_m4 y) (noonmarkref16_Plain_K1 (fun st => codeK Tryd.prog noonmarkref16_Plain_sp n noonmarkref16_Plain_c1 noonmarkref16_Plain_a1 st (noonmarkref16_Plain_K0 r2 k0)) r2 k0)) = (noonmarkref16_Plain_s4 n (fun y => k0 (noonmarkref16_Plain_m0 y)) (fun y => r2 (noonmarkref16_Plain_m2 y)) (noonmarkref16_Plain_s3 n (fun y => k0 (noonmarkref16_Plain_m0 y)) (fun y => r2 (noonmarkref16_Plain_m2 y)))) := funext fun y => by
    have := noonmarkref16_Plain_q4 n k0 r2 (fun st => codeK Tryd.prog noonmarkref16_Plain_sp n noonmarkref16_Plain_c1 noonmarkref16_Plain_a1 st (noonmarkref16_Plain_K0 r2 k0)) y
    rw [h3] at this; exact this
  rw [codeK_R, noonmarkref16_Plain_e2]
  rw [h3]
  rw [h4]
  rfl
def noonmarkref16_Plain_s1 (n : Nat) (k0 : noonmarkref16_Plain_t0 → noonmarkref16_Plain_R) (z : noonmarkref16_Plain_t1) : noonmarkref16_Plain_R :=
  rounds (fun r2 x' => noonmarkref16_Plain_s2 n k0 r2 x') n (z.1, z.2)
theorem noonmarkref16_Plain_q1 (n : Nat) (k0 : St → noonmarkref16_Plain_R) (z : noonmarkref16_Plain_t1) : codeK Tryd.prog noonmarkref16_Plain_sp n noonmarkref16_Plain_c4 noonmarkref16_Plain_a7 (noonmarkref16_Plain_m1 z) (noonmarkref16_Plain_K3 k0) = noonmarkref16_Plain_s1 n (fun y => k0 (noonmarkref16_Plain_m0 y)) z :=
  Eq.trans (b := rounds (fun r2 st => codeK Tryd.prog noonmarkref16_Plain_sp n noonmarkref16_Plain_c3 noonmarkref16_Plain_a6 st (noonmarkref16_Plain_K2 r2 k0)) n (noonmarkref16_Plain_m2 (z.1, z.2))) (by kernel_rfl) (rounds_mk noonmarkref16_Plain_m2 (fun r2 x' => by
    have := (noonmarkref16_Plain_q2 n k0 r2 x')
    exact this) n _)
def noonmarkref16_Plain_px (_n : Nat) (k0 : noonmarkref16_Plain_t0 → noonmarkref16_Plain_R) (k1 : noonmarkref16_Plain_t1 → noonmarkref16_Plain_R) (x : D_footer_reader) : noonmarkref16_Plain_R :=
  bif (decide ((ByteArray.size x.1 : Int) < 3)) then
    some (false, ())
  else
    bif (decide ((ByteArray.size x.1 : Int) > 6)) then
      some (false, ())
    else
      k1 (x.1, (0 : Int))
def noonmarkref16_Plain (n : Nat) (x : D_footer_reader) : noonmarkref16_Plain_R := noonmarkref16_Plain_px n (noonmarkref16_Plain_s0 n) (noonmarkref16_Plain_s1 n (noonmarkref16_Plain_s0 n)) x
theorem noonmarkref16_Plain_ex (n : Nat) (rc : RC noonmarkref16_Plain_R) (x : D_footer_reader) : codeR rc Tryd.prog noonmarkref16_Plain_sp n (bodyOf Tryd.f28) noonmarkref16_Plain_an (start noonmarkref16_Plain_ps x (Func.ntmps Tryd.f28)) (kFin Tryd.prog noonmarkref16_Plain_rs Tryd.f28) = noonmarkref16_Plain_px n (fun y => rc noonmarkref16_Plain_c0 noonmarkref16_Plain_a0 (noonmarkref16_Plain_m0 y) (kFin Tryd.prog noonmarkref16_Plain_rs Tryd.f28)) (fun y => rc noonmarkref16_Plain_c4 noonmarkref16_Plain_a7 (noonmarkref16_Plain_m1 y) (noonmarkref16_Plain_K3 (fun st => rc noonmarkref16_Plain_c0 noonmarkref16_Plain_a0 st (kFin Tryd.prog noonmarkref16_Plain_rs Tryd.f28)))) x := by kernel_rfl
theorem noonmarkref16_Plain_qx (n : Nat) (x : D_footer_reader) : codeK Tryd.prog noonmarkref16_Plain_sp n (bodyOf Tryd.f28) noonmarkref16_Plain_an (start noonmarkref16_Plain_ps x (Func.ntmps Tryd.f28)) (kFin Tryd.prog noonmarkref16_Plain_rs Tryd.f28) = noonmarkref16_Plain n x := by
  have h0 : (fun y => codeK Tryd.prog noonmarkref16_Plain_sp n noonmarkref16_Plain_c0 noonmarkref16_Plain_a0 (noonmarkref16_Plain_m0 y) (kFin Tryd.prog noonmarkref16_Plain_rs Tryd.f28)) = (noonmarkref16_Plain_s0 n) := funext fun y => by
    have := noonmarkref16_Plain_q0 n  y
    exact this
  have h1 : (fun y => codeK Tryd.prog noonmarkref16_Plain_sp n noonmarkref16_Plain_c4 noonmarkref16_Plain_a7 (noonmarkref16_Plain_m1 y) (noonmarkref16_Plain_K3 (fun st => codeK Tryd.prog noonmarkref16_Plain_sp n noonmarkref16_Plain_c0 noonmarkref16_Plain_a0 st (kFin Tryd.prog noonmarkref16_Plain_rs Tryd.f28)))) = (noonmarkref16_Plain_s1 n (noonmarkref16_Plain_s0 n)) := funext fun y => by
    have := noonmarkref16_Plain_q1 n (fun st => codeK Tryd.prog noonmarkref16_Plain_sp n noonmarkref16_Plain_c0 noonmarkref16_Plain_a0 st (kFin Tryd.prog noonmarkref16_Plain_rs Tryd.f28)) y
    rw [h0] at this; exact this
  rw [codeK_R, noonmarkref16_Plain_ex]
  rw [h0]
  rw [h1]
  rfl
def noonmarkref16_Plain_spec : Sp := ⟨noonmarkref16_Plain_ps, noonmarkref16_Plain_rs, noonmarkref16_Plain⟩
theorem noonmarkref16_Plain_ok : SoundX Tryd.prog CX 28 (.f noonmarkref16_Plain_spec) := sound_of look_nil Tryd.func28 (by kernel_rfl) rfl noonmarkref16_Plain_an noonmarkref16_Plain_spec rfl rfl noonmarkref16_Plain_qx

/-! ### noonmark/noonmarkref17.offRight -/
abbrev noonmarkref17_offRight_ps : Ty := (.pair (.int .i64) .unit)
abbrev noonmarkref17_offRight_rs : Ty := (.pair .bool .unit)
def noonmarkref17_offRight_sp : Specs := look []
def noonmarkref17_offRight_an : An := .o
abbrev noonmarkref17_offRight_R := Option (Bool × Unit)
noncomputable abbrev noonmarkref17_offRight_K0 : Ex → St → noonmarkref17_offRight_R := (kFin Tryd.prog noonmarkref17_offRight_rs Tryd.f29)
def noonmarkref17_offRight_px (_n : Nat) (x : (Int × Unit)) : noonmarkref17_offRight_R :=
  bif (decide (x.1 ≥ (-86400))) then
    some ((decide (x.1 ≤ 86400)), ())
  else
    some (false, ())
def noonmarkref17_offRight (n : Nat) (x : (Int × Unit)) : noonmarkref17_offRight_R := noonmarkref17_offRight_px n x
theorem noonmarkref17_offRight_ex (n : Nat) (rc : RC noonmarkref17_offRight_R) (x : (Int × Unit)) : codeR rc Tryd.prog noonmarkref17_offRight_sp n (bodyOf Tryd.f29) noonmarkref17_offRight_an (start noonmarkref17_offRight_ps x (Func.ntmps Tryd.f29)) noonmarkref17_offRight_K0 = noonmarkref17_offRight_px n x := by kernel_rfl
theorem noonmarkref17_offRight_qx (n : Nat) (x : (Int × Unit)) : codeK Tryd.prog noonmarkref17_offRight_sp n (bodyOf Tryd.f29) noonmarkref17_offRight_an (start noonmarkref17_offRight_ps x (Func.ntmps Tryd.f29)) noonmarkref17_offRight_K0 = noonmarkref17_offRight n x := by
  rw [codeK_R, noonmarkref17_offRight_ex]
  rfl
def noonmarkref17_offRight_spec : Sp := ⟨noonmarkref17_offRight_ps, noonmarkref17_offRight_rs, noonmarkref17_offRight⟩
theorem noonmarkref17_offRight_ok : SoundX Tryd.prog CX 29 (.f noonmarkref17_offRight_spec) := sound_of look_nil Tryd.func29 (by kernel_rfl) rfl noonmarkref17_offRight_an noonmarkref17_offRight_spec rfl rfl noonmarkref17_offRight_qx

/-! ### noonmark/noonmarkref17.EdgeRight -/
abbrev noonmarkref17_EdgeRight_ps : Ty := (.pair T_noonmarkref17_Edge .unit)
abbrev noonmarkref17_EdgeRight_rs : Ty := (.pair .bool .unit)
def noonmarkref17_EdgeRight_sp : Specs := look []
def noonmarkref17_EdgeRight_an : An := .o
abbrev noonmarkref17_EdgeRight_R := Option (Bool × Unit)
noncomputable abbrev noonmarkref17_EdgeRight_K0 : Ex → St → noonmarkref17_EdgeRight_R := (kFin Tryd.prog noonmarkref17_EdgeRight_rs Tryd.f30)
def noonmarkref17_EdgeRight_px (_n : Nat) (x : (D_noonmarkref17_Edge × Unit)) : noonmarkref17_EdgeRight_R :=
  bif (decide (x.1.2.2.2.2.1 < (-604799))) then
    some (false, ())
  else
    bif (decide (x.1.2.2.2.2.1 > 604799)) then
      some (false, ())
    else
      bif x.1.1 then
        bif (decide (x.1.2.1 ≥ 1)) then
          bif (decide (x.1.2.1 ≤ 365)) then
            bif (x.1.2.2.1 == 0) then
              some ((x.1.2.2.2.1 == 0), ())
            else
              some (false, ())
          else
            some (false, ())
        else
          some (false, ())
      else
        bif (decide (x.1.2.2.1 ≥ 1)) then
          bif (decide (x.1.2.2.1 ≤ 12)) then
            bif (decide (x.1.2.2.2.1 ≥ 1)) then
              bif (decide (x.1.2.2.2.1 ≤ 5)) then
                bif (decide (x.1.2.1 ≥ 0)) then
                  some ((decide (x.1.2.1 ≤ 6)), ())
                else
                  some (false, ())
              else
                some (false, ())
            else
              some (false, ())
          else
            some (false, ())
        else
          some (false, ())
def noonmarkref17_EdgeRight (n : Nat) (x : (D_noonmarkref17_Edge × Unit)) : noonmarkref17_EdgeRight_R := noonmarkref17_EdgeRight_px n x
theorem noonmarkref17_EdgeRight_ex (n : Nat) (rc : RC noonmarkref17_EdgeRight_R) (x : (D_noonmarkref17_Edge × Unit)) : codeR rc Tryd.prog noonmarkref17_EdgeRight_sp n (bodyOf Tryd.f30) noonmarkref17_EdgeRight_an (start noonmarkref17_EdgeRight_ps x (Func.ntmps Tryd.f30)) noonmarkref17_EdgeRight_K0 = noonmarkref17_EdgeRight_px n x := by kernel_rfl
theorem noonmarkref17_EdgeRight_qx (n : Nat) (x : (D_noonmarkref17_Edge × Unit)) : codeK Tryd.prog noonmarkref17_EdgeRight_sp n (bodyOf Tryd.f30) noonmarkref17_EdgeRight_an (start noonmarkref17_EdgeRight_ps x (Func.ntmps Tryd.f30)) noonmarkref17_EdgeRight_K0 = noonmarkref17_EdgeRight n x := by
  rw [codeK_R, noonmarkref17_EdgeRight_ex]
  rfl
def noonmarkref17_EdgeRight_spec : Sp := ⟨noonmarkref17_EdgeRight_ps, noonmarkref17_EdgeRight_rs, noonmarkref17_EdgeRight⟩
theorem noonmarkref17_EdgeRight_ok : SoundX Tryd.prog CX 30 (.f noonmarkref17_EdgeRight_spec) := sound_of look_nil Tryd.func30 (by kernel_rfl) rfl noonmarkref17_EdgeRight_an noonmarkref17_EdgeRight_spec rfl rfl noonmarkref17_EdgeRight_qx

/-! ### noonmark/noonmarkref17.Right -/
abbrev noonmarkref17_Right_ps : Ty := T_posix_spec
abbrev noonmarkref17_Right_rs : Ty := (.pair .bool .unit)
def noonmarkref17_Right_sp : Specs := look [(28, .f noonmarkref16_Plain_spec), (29, .f noonmarkref17_offRight_spec), (30, .f noonmarkref17_EdgeRight_spec)]
def noonmarkref17_Right_an : An := .o
abbrev noonmarkref17_Right_R := Option (Bool × Unit)

def noonmarkref17_Right_px (n : Nat) (x : D_posix_spec) : noonmarkref17_Right_R :=
  ((noonmarkref16_Plain n (x.1.1, ()))).bind fun v1 =>
  bif (!v1.1) then
    some (false, ())
  else
    ((noonmarkref17_offRight n (x.1.2.1, ()))).bind fun v2 =>
    bif (!v2.1) then
      some (false, ())
    else
      bif (x.1.2.2.1.toList == (⟨#[]⟩ : ByteArray).toList) then
        some ((eqD T_noonmarkref17_Spec x.1 (x.1.1, (x.1.2.1, ((⟨#[]⟩ : ByteArray), ((0 : Int), ((false, ((0 : Int), ((0 : Int), ((0 : Int), ((0 : Int), ()))))), ((false, ((0 : Int), ((0 : Int), ((0 : Int), ((0 : Int), ()))))), ()))))))), ())
      else
        ((noonmarkref16_Plain n (x.1.2.2.1, ()))).bind fun v3 =>
        bif v3.1 then
          ((noonmarkref17_offRight n (x.1.2.2.2.1, ()))).bind fun v4 =>
          bif v4.1 then
            ((noonmarkref17_EdgeRight n (x.1.2.2.2.2.1, ()))).bind fun v5 =>
            bif v5.1 then
              ((noonmarkref17_EdgeRight n (x.1.2.2.2.2.2.1, ()))).bind fun v6 =>
              some (v6.1, ())
            else
              some (false, ())
          else
            some (false, ())
        else
          some (false, ())
def noonmarkref17_Right (n : Nat) (x : D_posix_spec) : noonmarkref17_Right_R := noonmarkref17_Right_px n x
theorem noonmarkref17_Right_ex (n : Nat) (rc : RC noonmarkref17_Right_R) (x : D_posix_spec) : codeR rc Tryd.prog noonmarkref17_Right_sp n (bodyOf Tryd.f17) noonmarkref17_Right_an (start noonmarkref17_Right_ps x (Func.ntmps Tryd.f17)) (kFin Tryd.prog noonmarkref17_Right_rs Tryd.f17) = noonmarkref17_Right_px n x := by kernel_rfl
theorem noonmarkref17_Right_qx (n : Nat) (x : D_posix_spec) : codeK Tryd.prog noonmarkref17_Right_sp n (bodyOf Tryd.f17) noonmarkref17_Right_an (start noonmarkref17_Right_ps x (Func.ntmps Tryd.f17)) (kFin Tryd.prog noonmarkref17_Right_rs Tryd.f17) = noonmarkref17_Right n x := by
  rw [codeK_R, noonmarkref17_Right_ex]
  rfl
def noonmarkref17_Right_spec : Sp := ⟨noonmarkref17_Right_ps, noonmarkref17_Right_rs, noonmarkref17_Right⟩
theorem noonmarkref17_Right_ok : SoundX Tryd.prog CX 17 (.f noonmarkref17_Right_spec) := sound_of (look_cons noonmarkref16_Plain_ok (look_cons noonmarkref17_offRight_ok (look_cons noonmarkref17_EdgeRight_ok look_nil))) Tryd.func17 (by kernel_rfl) rfl noonmarkref17_Right_an noonmarkref17_Right_spec rfl rfl noonmarkref17_Right_qx

/-! ### noonmark/noonmarkref04.Leap -/
abbrev noonmarkref04_Leap_ps : Ty := (.pair (.int .i64) .unit)
abbrev noonmarkref04_Leap_rs : Ty := (.pair .bool .unit)
def noonmarkref04_Leap_sp : Specs := look []
def noonmarkref04_Leap_an : An := .o
abbrev noonmarkref04_Leap_R := Option (Bool × Unit)

def noonmarkref04_Leap_px (_n : Nat) (x : (Int × Unit)) : noonmarkref04_Leap_R :=
  bif ((Int.tmod x.1 (4 : Int)) == 0) then
    bif ((Int.tmod x.1 (100 : Int)) != 0) then
      some (true, ())
    else
      some (((Int.tmod x.1 (400 : Int)) == 0), ())
  else
    some (((Int.tmod x.1 (400 : Int)) == 0), ())
def noonmarkref04_Leap (n : Nat) (x : (Int × Unit)) : noonmarkref04_Leap_R := noonmarkref04_Leap_px n x
theorem noonmarkref04_Leap_ex (n : Nat) (rc : RC noonmarkref04_Leap_R) (x : (Int × Unit)) : codeR rc Tryd.prog noonmarkref04_Leap_sp n (bodyOf Tryd.f45) noonmarkref04_Leap_an (start noonmarkref04_Leap_ps x (Func.ntmps Tryd.f45)) (kFin Tryd.prog noonmarkref04_Leap_rs Tryd.f45) = noonmarkref04_Leap_px n x := by kernel_rfl
theorem noonmarkref04_Leap_qx (n : Nat) (x : (Int × Unit)) : codeK Tryd.prog noonmarkref04_Leap_sp n (bodyOf Tryd.f45) noonmarkref04_Leap_an (start noonmarkref04_Leap_ps x (Func.ntmps Tryd.f45)) (kFin Tryd.prog noonmarkref04_Leap_rs Tryd.f45) = noonmarkref04_Leap n x := by
  rw [codeK_R, noonmarkref04_Leap_ex]
  rfl
def noonmarkref04_Leap_spec : Sp := ⟨noonmarkref04_Leap_ps, noonmarkref04_Leap_rs, noonmarkref04_Leap⟩
theorem noonmarkref04_Leap_ok : SoundX Tryd.prog CX 45 (.f noonmarkref04_Leap_spec) := sound_of look_nil Tryd.func45 (by kernel_rfl) rfl noonmarkref04_Leap_an noonmarkref04_Leap_spec rfl rfl noonmarkref04_Leap_qx

/-! ### noonmark/noonmarkref04.Long -/
abbrev noonmarkref04_Long_ps : Ty := T_api_At
abbrev noonmarkref04_Long_rs : Ty := (.pair (.int .i64) .unit)
def noonmarkref04_Long_sp : Specs := look [(45, .f noonmarkref04_Leap_spec)]
def noonmarkref04_Long_an : An := (.s .o (.k [] [] 0 (.s .o (.b (.k [] [0,5,6] 0 .o (.c .o (.s .o (.c .o (.k [] [15] 0 .o .o))))))) .o))
abbrev noonmarkref04_Long_R := Option (Int × Unit)
noncomputable abbrev noonmarkref04_Long_c0 : Code := (cr (cr (bodyOf Tryd.f47)))
noncomputable abbrev noonmarkref04_Long_c1 : Code := (cr (cr (cr (cr (cr (cl (cr (cl (cr (bodyOf Tryd.f47))))))))))
noncomputable abbrev noonmarkref04_Long_c2 : Code := (cr (cl (cr (cl (cr (bodyOf Tryd.f47))))))
noncomputable abbrev noonmarkref04_Long_a0 : An := noonmarkref04_Long_an.right.right
noncomputable abbrev noonmarkref04_Long_a1 : An := noonmarkref04_Long_an.right.left.right.left.right.right.right.right.right
noncomputable abbrev noonmarkref04_Long_a2 : An := noonmarkref04_Long_an.right.left.right.left.right
noncomputable abbrev noonmarkref04_Long_K0 (k0 : St → noonmarkref04_Long_R) : Ex → St → noonmarkref04_Long_R := (kBlk 0 (kSeq k0 noonmarkref04_Long_an.right (kFin Tryd.prog noonmarkref04_Long_rs Tryd.f47)))
noncomputable abbrev noonmarkref04_Long_K1 (k0 : St → noonmarkref04_Long_R) : Ex → St → noonmarkref04_Long_R := (kBlk 0 (kSeq k0 noonmarkref04_Long_an.right (kFin Tryd.prog noonmarkref04_Long_rs Tryd.f47)))
abbrev noonmarkref04_Long_t0 := Unit
def noonmarkref04_Long_m0 (_z : noonmarkref04_Long_t0) : St := ⟨(jk 23 []), []⟩
abbrev noonmarkref04_Long_t1 := Int × Int × Bool
def noonmarkref04_Long_m1 (z : noonmarkref04_Long_t1) : St := ⟨(.v ⟨(.int .i64), z.1⟩ :: jk 4 (.v ⟨(.int .i64), z.2.1⟩ :: .v ⟨.bool, z.2.2⟩ :: jk 16 [])), []⟩
abbrev noonmarkref04_Long_t2 := Bool
def noonmarkref04_Long_m2 (z : noonmarkref04_Long_t2) : St := ⟨(jk 15 (.v ⟨.bool, z⟩ :: jk 7 [])), []⟩
def noonmarkref04_Long_p0 (_n : Nat) (_z : noonmarkref04_Long_t0) : noonmarkref04_Long_R :=
  some ((0 : Int), ())
def noonmarkref04_Long_s0 (n : Nat) (z : noonmarkref04_Long_t0) : noonmarkref04_Long_R := noonmarkref04_Long_p0 n z
theorem noonmarkref04_Long_e0 (n : Nat) (rc : RC noonmarkref04_Long_R) (z : noonmarkref04_Long_t0) : codeR rc Tryd.prog noonmarkref04_Long_sp n noonmarkref04_Long_c0 noonmarkref04_Long_a0 (noonmarkref04_Long_m0 z) (kFin Tryd.prog noonmarkref04_Long_rs Tryd.f47) = noonmarkref04_Long_p0 n z := by kernel_rfl
theorem noonmarkref04_Long_q0 (n : Nat) (z : noonmarkref04_Long_t0) : codeK Tryd.prog noonmarkref04_Long_sp n noonmarkref04_Long_c0 noonmarkref04_Long_a0 (noonmarkref04_Long_m0 z) (kFin Tryd.prog noonmarkref04_Long_rs Tryd.f47) = noonmarkref04_Long_s0 n z := by
  rw [codeK_R, noonmarkref04_Long_e0]
  rfl
def noonmarkref04_Long_p2 (_n : Nat) (k0 : noonmarkref04_Long_t0 → noonmarkref04_Long_R) (z : noonmarkref04_Long_t2) : noonmarkref04_Long_R :=
  bif z then
    some ((31 : Int), ())
  else
    k0 ()
def noonmarkref04_Long_s2 (n : Nat) (k0 : noonmarkref04_Long_t0 → noonmarkref04_Long_R) (z : noonmarkref04_Long_t2) : noonmarkref04_Long_R := noonmarkref04_Long_p2 n k0 z
theorem noonmarkref04_Long_e2 (n : Nat) (k0 : St → noonmarkref04_Long_R) (rc : RC noonmarkref04_Long_R) (z : noonmarkref04_Long_t2) : codeR rc Tryd.prog noonmarkref04_Long_sp n noonmarkref04_Long_c1 noonmarkref04_Long_a1 (noonmarkref04_Long_m2 z) (noonmarkref04_Long_K0 k0) = noonmarkref04_Long_p2 n (fun y => k0 (noonmarkref04_Long_m0 y)) z := by kernel_rfl
theorem noonmarkref04_Long_q2 (n : Nat) (k0 : St → noonmarkref04_Long_R) (z : noonmarkref04_Long_t2) : codeK Tryd.prog noonmarkref04_Long_sp n noonmarkref04_Long_c1 noonmarkref04_Long_a1 (noonmarkref04_Long_m2 z) (noonmarkref04_Long_K0 k0) = noonmarkref04_Long_s2 n (fun y => k0 (noonmarkref04_Long_m0 y)) z := by
  rw [codeK_R, noonmarkref04_Long_e2]
  rfl
def noonmarkref04_Long_p1 (n : Nat) (_k0 : noonmarkref04_Long_t0 → noonmarkref04_Long_R) (k2 : noonmarkref04_Long_t2 → noonmarkref04_Long_R) (z : noonmarkref04_Long_t1) : noonmarkref04_Long_R :=
  bif z.2.2 then
    some ((30 : Int), ())
  else
    bif (z.2.1 == 2) then
      ((noonmarkref04_Leap n (z.1, ()))).bind fun v1 =>
      bif v1.1 then
        some ((29 : Int), ())
      else
        some ((28 : Int), ())
    else
      bif (z.2.1 == 1) then
        k2 true
      else
        bif (z.2.1 == 3) then
          k2 true
        else
          bif (z.2.1 == 5) then
            k2 true
          else
            bif (z.2.1 == 7) then
              k2 true
            else
              bif (z.2.1 == 8) then
                k2 true
              else
                bif (z.2.1 == 10) then
                  k2 true
                else
                  k2 (z.2.1 == 12)
def noonmarkref04_Long_s1 (n : Nat) (k0 : noonmarkref04_Long_t0 → noonmarkref04_Long_R) (z : noonmarkref04_Long_t1) : noonmarkref04_Long_R := noonmarkref04_Long_p1 n k0 (noonmarkref04_Long_s2 n k0) z
theorem noonmarkref04_Long_e1 (n : Nat) (k0 : St → noonmarkref04_Long_R) (rc : RC noonmarkref04_Long_R) (z : noonmarkref04_Long_t1) : codeR rc Tryd.prog noonmarkref04_Long_sp n noonmarkref04_Long_c2 noonmarkref04_Long_a2 (noonmarkref04_Long_m1 z) (noonmarkref04_Long_K1 k0) = noonmarkref04_Long_p1 n (fun y => k0 (noonmarkref04_Long_m0 y)) (fun y => rc noonmarkref04_Long_c1 noonmarkref04_Long_a1 (noonmarkref04_Long_m2 y) (noonmarkref04_Long_K0 k0)) z := by kernel_rfl
theorem noonmarkref04_Long_q1 (n : Nat) (k0 : St → noonmarkref04_Long_R) (z : noonmarkref04_Long_t1) : codeK Tryd.prog noonmarkref04_Long_sp n noonmarkref04_Long_c2 noonmarkref04_Long_a2 (noonmarkref04_Long_m1 z) (noonmarkref04_Long_K1 k0) = noonmarkref04_Long_s1 n (fun y => k0 (noonmarkref04_Long_m0 y)) z := by
  have h2 : (fun y => codeK Tryd.prog noonmarkref04_Long_sp n noonmarkref04_Long_c1 noonmarkref04_Long_a1 (noonmarkref04_Long_m2 y) (noonmarkref04_Long_K0 k0)) = (noonmarkref04_Long_s2 n (fun y => k0 (noonmarkref04_Long_m0 y))) := funext fun y => by
    have := noonmarkref04_Long_q2 n k0 y
    exact this
  rw [codeK_R, noonmarkref04_Long_e1]
  rw [h2]
  rfl
def noonmarkref04_Long_px (_n : Nat) (k0 : noonmarkref04_Long_t0 → noonmarkref04_Long_R) (k1 : noonmarkref04_Long_t1 → noonmarkref04_Long_R) (x : D_api_At) : noonmarkref04_Long_R :=
  bif (x.2.1 == 4) then
    k1 (x.1, x.2.1, true)
  else
    bif (x.2.1 == 6) then
      k1 (x.1, x.2.1, true)
    else
      bif (x.2.1 == 9) then
        k1 (x.1, x.2.1, true)
      else
        k1 (x.1, x.2.1, (x.2.1 == 11))
def noonmarkref04_Long (n : Nat) (x : D_api_At) : noonmarkref04_Long_R := noonmarkref04_Long_px n (noonmarkref04_Long_s0 n) (noonmarkref04_Long_s1 n (noonmarkref04_Long_s0 n)) x
theorem noonmarkref04_Long_ex (n : Nat) (rc : RC noonmarkref04_Long_R) (x : D_api_At) : codeR rc Tryd.prog noonmarkref04_Long_sp n (bodyOf Tryd.f47) noonmarkref04_Long_an (start noonmarkref04_Long_ps x (Func.ntmps Tryd.f47)) (kFin Tryd.prog noonmarkref04_Long_rs Tryd.f47) = noonmarkref04_Long_px n (fun y => rc noonmarkref04_Long_c0 noonmarkref04_Long_a0 (noonmarkref04_Long_m0 y) (kFin Tryd.prog noonmarkref04_Long_rs Tryd.f47)) (fun y => rc noonmarkref04_Long_c2 noonmarkref04_Long_a2 (noonmarkref04_Long_m1 y) (noonmarkref04_Long_K1 (fun st => rc noonmarkref04_Long_c0 noonmarkref04_Long_a0 st (kFin Tryd.prog noonmarkref04_Long_rs Tryd.f47)))) x := by kernel_rfl
theorem noonmarkref04_Long_qx (n : Nat) (x : D_api_At) : codeK Tryd.prog noonmarkref04_Long_sp n (bodyOf Tryd.f47) noonmarkref04_Long_an (start noonmarkref04_Long_ps x (Func.ntmps Tryd.f47)) (kFin Tryd.prog noonmarkref04_Long_rs Tryd.f47) = noonmarkref04_Long n x := by
  have h0 : (fun y => codeK Tryd.prog noonmarkref04_Long_sp n noonmarkref04_Long_c0 noonmarkref04_Long_a0 (noonmarkref04_Long_m0 y) (kFin Tryd.prog noonmarkref04_Long_rs Tryd.f47)) = (noonmarkref04_Long_s0 n) := funext fun y => by
    have := noonmarkref04_Long_q0 n  y
    exact this
  have h1 : (fun y => codeK Tryd.prog noonmarkref04_Long_sp n noonmarkref04_Long_c2 noonmarkref04_Long_a2 (noonmarkref04_Long_m1 y) (noonmarkref04_Long_K1 (fun st => codeK Tryd.prog noonmarkref04_Long_sp n noonmarkref04_Long_c0 noonmarkref04_Long_a0 st (kFin Tryd.prog noonmarkref04_Long_rs Tryd.f47)))) = (noonmarkref04_Long_s1 n (noonmarkref04_Long_s0 n)) := funext fun y => by
    have := noonmarkref04_Long_q1 n (fun st => codeK Tryd.prog noonmarkref04_Long_sp n noonmarkref04_Long_c0 noonmarkref04_Long_a0 st (kFin Tryd.prog noonmarkref04_Long_rs Tryd.f47)) y
    rw [h0] at this; exact this
  rw [codeK_R, noonmarkref04_Long_ex]
  rw [h0]
  rw [h1]
  rfl
def noonmarkref04_Long_spec : Sp := ⟨noonmarkref04_Long_ps, noonmarkref04_Long_rs, noonmarkref04_Long⟩
theorem noonmarkref04_Long_ok : SoundX Tryd.prog CX 47 (.f noonmarkref04_Long_spec) := sound_of (look_cons noonmarkref04_Leap_ok look_nil) Tryd.func47 (by kernel_rfl) rfl noonmarkref04_Long_an noonmarkref04_Long_spec rfl rfl noonmarkref04_Long_qx

/-! ### noonmark/noonmarkref04.Right -/
abbrev noonmarkref04_Right_ps : Ty := T_api_Day
abbrev noonmarkref04_Right_rs : Ty := (.pair .bool .unit)
def noonmarkref04_Right_sp : Specs := look [(47, .f noonmarkref04_Long_spec)]
def noonmarkref04_Right_an : An := .o
abbrev noonmarkref04_Right_R := Option (Bool × Unit)

def noonmarkref04_Right_px (n : Nat) (x : D_api_Day) : noonmarkref04_Right_R :=
  bif (decide (x.1 ≥ (-9999))) then
    bif (decide (x.1 ≤ 9999)) then
      bif (decide (x.2.1 ≥ 1)) then
        bif (decide (x.2.1 ≤ 12)) then
          bif (decide (x.2.2.1 ≥ 1)) then
            ((noonmarkref04_Long n (x.1, (x.2.1, ())))).bind fun v1 =>
            some ((decide (x.2.2.1 ≤ v1.1)), ())
          else
            some (false, ())
        else
          some (false, ())
      else
        some (false, ())
    else
      some (false, ())
  else
    some (false, ())
def noonmarkref04_Right (n : Nat) (x : D_api_Day) : noonmarkref04_Right_R := noonmarkref04_Right_px n x
theorem noonmarkref04_Right_ex (n : Nat) (rc : RC noonmarkref04_Right_R) (x : D_api_Day) : codeR rc Tryd.prog noonmarkref04_Right_sp n (bodyOf Tryd.f61) noonmarkref04_Right_an (start noonmarkref04_Right_ps x (Func.ntmps Tryd.f61)) (kFin Tryd.prog noonmarkref04_Right_rs Tryd.f61) = noonmarkref04_Right_px n x := by kernel_rfl
theorem noonmarkref04_Right_qx (n : Nat) (x : D_api_Day) : codeK Tryd.prog noonmarkref04_Right_sp n (bodyOf Tryd.f61) noonmarkref04_Right_an (start noonmarkref04_Right_ps x (Func.ntmps Tryd.f61)) (kFin Tryd.prog noonmarkref04_Right_rs Tryd.f61) = noonmarkref04_Right n x := by
  rw [codeK_R, noonmarkref04_Right_ex]
  rfl
def noonmarkref04_Right_spec : Sp := ⟨noonmarkref04_Right_ps, noonmarkref04_Right_rs, noonmarkref04_Right⟩
theorem noonmarkref04_Right_ok : SoundX Tryd.prog CX 61 (.f noonmarkref04_Right_spec) := sound_of (look_cons noonmarkref04_Long_ok look_nil) Tryd.func61 (by kernel_rfl) rfl noonmarkref04_Right_an noonmarkref04_Right_spec rfl rfl noonmarkref04_Right_qx

/-! ### noonmark/noonmarkref04.year -/
abbrev noonmarkref04_year_ps : Ty := (.pair (.int .i64) .unit)
abbrev noonmarkref04_year_rs : Ty := (.pair (.int .i64) .unit)
def noonmarkref04_year_sp : Specs := look [(45, .f noonmarkref04_Leap_spec)]
def noonmarkref04_year_an : An := (.s .o (.s .o (.k [] [0,3,4] 0 .o (.k [] [0,3,4] 0 (.b (.l [] [0,3,4] 0 .o)) (.k [] [0,3,4] 0 (.b (.l [] [0,3,4] 0 .o)) (.k [] [3] 0 (.b (.l [] [0,3,4] 0 (.s .o (.b (.s .o (.k [] [0,3,4] 0 .o .o)))))) .o))))))
abbrev noonmarkref04_year_R := Option (Int × Unit)
noncomputable abbrev noonmarkref04_year_c0 : Code := (cl (cl (cl (cr (cr (cr (bodyOf Tryd.f62)))))))
noncomputable abbrev noonmarkref04_year_c1 : Code := (cl (cl (cl (cr (cr (cr (cr (bodyOf Tryd.f62))))))))
noncomputable abbrev noonmarkref04_year_c2 : Code := (cr (cr (cl (cr (cl (cl (cl (cr (cr (cr (cr (cr (bodyOf Tryd.f62)))))))))))))
noncomputable abbrev noonmarkref04_year_c3 : Code := (cl (cl (cl (cr (cr (cr (cr (cr (bodyOf Tryd.f62)))))))))
noncomputable abbrev noonmarkref04_year_c4 : Code := (cr (cr (cr (cr (cr (cr (bodyOf Tryd.f62)))))))
noncomputable abbrev noonmarkref04_year_c5 : Code := (cr (cr (cr (cr (cr (bodyOf Tryd.f62))))))
noncomputable abbrev noonmarkref04_year_c6 : Code := (cr (cr (cr (cr (bodyOf Tryd.f62)))))
noncomputable abbrev noonmarkref04_year_c7 : Code := (cr (cr (cr (bodyOf Tryd.f62))))
noncomputable abbrev noonmarkref04_year_a0 : An := noonmarkref04_year_an.right.right.right.left.left.left
noncomputable abbrev noonmarkref04_year_a1 : An := noonmarkref04_year_an.right.right.right
noncomputable abbrev noonmarkref04_year_a2 : An := noonmarkref04_year_an.right.right.right.left.left
noncomputable abbrev noonmarkref04_year_a3 : An := noonmarkref04_year_an.right.right.right.right.left.left.left
noncomputable abbrev noonmarkref04_year_a4 : An := noonmarkref04_year_an.right.right.right.right
noncomputable abbrev noonmarkref04_year_a5 : An := noonmarkref04_year_an.right.right.right.right.left.left
noncomputable abbrev noonmarkref04_year_a6 : An := noonmarkref04_year_an.right.right.right.right.right.left.left.left.right.left.right.right
noncomputable abbrev noonmarkref04_year_a7 : An := noonmarkref04_year_an.right.right.right.right.right
noncomputable abbrev noonmarkref04_year_a8 : An := noonmarkref04_year_an.right.right.right.right.right.left.left
noncomputable abbrev noonmarkref04_year_a9 : An := noonmarkref04_year_an.right.right.right.right.right.left.left.left
noncomputable abbrev noonmarkref04_year_a10 : An := noonmarkref04_year_an.right.right.right.right.right.right
noncomputable abbrev noonmarkref04_year_K0 (r2 k1 : St → noonmarkref04_year_R) : Ex → St → noonmarkref04_year_R := (kSeq r2 noonmarkref04_year_a2 (kBlk 0 (kSeq k1 noonmarkref04_year_a1 (kFin Tryd.prog noonmarkref04_year_rs Tryd.f62))))
noncomputable abbrev noonmarkref04_year_K1 (r4 k3 : St → noonmarkref04_year_R) : Ex → St → noonmarkref04_year_R := (kSeq r4 noonmarkref04_year_a5 (kBlk 2 (kSeq k3 noonmarkref04_year_a4 (kFin Tryd.prog noonmarkref04_year_rs Tryd.f62))))
noncomputable abbrev noonmarkref04_year_K2 (r6 k5 : St → noonmarkref04_year_R) : Ex → St → noonmarkref04_year_R := (kBlk 5 (kSeq r6 noonmarkref04_year_a8 (kBlk 4 (kSeq k5 noonmarkref04_year_a7 (kFin Tryd.prog noonmarkref04_year_rs Tryd.f62)))))
noncomputable abbrev noonmarkref04_year_K3 (r6 k5 : St → noonmarkref04_year_R) : Ex → St → noonmarkref04_year_R := (kSeq r6 noonmarkref04_year_a8 (kBlk 4 (kSeq k5 noonmarkref04_year_a7 (kFin Tryd.prog noonmarkref04_year_rs Tryd.f62))))
abbrev noonmarkref04_year_t0 := Int × Int × Int
def noonmarkref04_year_m0 (z : noonmarkref04_year_t0) : St := ⟨(.v ⟨(.int .i64), z.1⟩ :: .junk :: .junk :: .v ⟨(.int .i64), z.2.1⟩ :: .v ⟨(.int .i64), z.2.2⟩ :: jk 27 []), []⟩
abbrev noonmarkref04_year_t1 := Int × Int × Int
def noonmarkref04_year_m1 (z : noonmarkref04_year_t1) : St := ⟨(.v ⟨(.int .i64), z.1⟩ :: .junk :: .junk :: .v ⟨(.int .i64), z.2.1⟩ :: .v ⟨(.int .i64), z.2.2⟩ :: jk 27 []), []⟩
abbrev noonmarkref04_year_t2 := Int × Int × Int
def noonmarkref04_year_m2 (z : noonmarkref04_year_t2) : St := ⟨(.v ⟨(.int .i64), z.1⟩ :: .junk :: .junk :: .v ⟨(.int .i64), z.2.1⟩ :: .v ⟨(.int .i64), z.2.2⟩ :: jk 27 []), []⟩
abbrev noonmarkref04_year_t3 := Int × Int × Int
def noonmarkref04_year_m3 (z : noonmarkref04_year_t3) : St := ⟨(.v ⟨(.int .i64), z.1⟩ :: .junk :: .junk :: .v ⟨(.int .i64), z.2.1⟩ :: .v ⟨(.int .i64), z.2.2⟩ :: jk 27 []), []⟩
abbrev noonmarkref04_year_t4 := Int × Int × Int
def noonmarkref04_year_m4 (z : noonmarkref04_year_t4) : St := ⟨(.v ⟨(.int .i64), z.1⟩ :: .junk :: .junk :: .v ⟨(.int .i64), z.2.1⟩ :: .v ⟨(.int .i64), z.2.2⟩ :: jk 27 []), []⟩
abbrev noonmarkref04_year_t5 := Int
def noonmarkref04_year_m5 (z : noonmarkref04_year_t5) : St := ⟨(jk 3 (.v ⟨(.int .i64), z⟩ :: jk 28 [])), []⟩
abbrev noonmarkref04_year_t6 := Int × Int × Int
def noonmarkref04_year_m6 (z : noonmarkref04_year_t6) : St := ⟨(.v ⟨(.int .i64), z.1⟩ :: .junk :: .junk :: .v ⟨(.int .i64), z.2.1⟩ :: .v ⟨(.int .i64), z.2.2⟩ :: jk 27 []), []⟩
abbrev noonmarkref04_year_t7 := Int × Int × Int
def noonmarkref04_year_m7 (z : noonmarkref04_year_t7) : St := ⟨(.v ⟨(.int .i64), z.1⟩ :: .junk :: .junk :: .v ⟨(.int .i64), z.2.1⟩ :: .v ⟨(.int .i64), z.2.2⟩ :: jk 27 []), []⟩
def noonmarkref04_year_p2 (_n : Nat) (k1 : noonmarkref04_year_t1 → noonmarkref04_year_R) (r2 : noonmarkref04_year_t2 → noonmarkref04_year_R) (z : noonmarkref04_year_t2) : noonmarkref04_year_R :=
  bif (decide ((w64 (z.2.2 + 400)) ≤ z.1)) then
    r2 (z.1, (w64 (z.2.1 + 146097)), (w64 (z.2.2 + 400)))
  else
    k1 (z.1, z.2.1, z.2.2)
def noonmarkref04_year_s2 (n : Nat) (k1 : noonmarkref04_year_t1 → noonmarkref04_year_R) (r2 : noonmarkref04_year_t2 → noonmarkref04_year_R) (z : noonmarkref04_year_t2) : noonmarkref04_year_R := noonmarkref04_year_p2 n k1 r2 z
theorem noonmarkref04_year_e2 (n : Nat) (k1 : St → noonmarkref04_year_R) (r2 : St → noonmarkref04_year_R) (rc : RC noonmarkref04_year_R) (z : noonmarkref04_year_t2) : codeR rc Tryd.prog noonmarkref04_year_sp n noonmarkref04_year_c0 noonmarkref04_year_a0 (noonmarkref04_year_m2 z) (noonmarkref04_year_K0 r2 k1) = noonmarkref04_year_p2 n (fun y => k1 (noonmarkref04_year_m1 y)) (fun y => r2 (noonmarkref04_year_m2 y)) z := by kernel_rfl
theorem noonmarkref04_year_q2 (n : Nat) (k1 : St → noonmarkref04_year_R) (r2 : St → noonmarkref04_year_R) (z : noonmarkref04_year_t2) : codeK Tryd.prog noonmarkref04_year_sp n noonmarkref04_year_c0 noonmarkref04_year_a0 (noonmarkref04_year_m2 z) (noonmarkref04_year_K0 r2 k1) = noonmarkref04_year_s2 n (fun y => k1 (noonmarkref04_year_m1 y)) (fun y => r2 (noonmarkref04_year_m2 y)) z := by
  rw [codeK_R, noonmarkref04_year_e2]
  rfl
def noonmarkref04_year_p4 (_n : Nat) (k3 : noonmarkref04_year_t3 → noonmarkref04_year_R) (r4 : noonmarkref04_year_t4 → noonmarkref04_year_R) (z : noonmarkref04_year_t4) : noonmarkref04_year_R :=
  bif (decide (z.2.2 > z.1)) then
    r4 (z.1, (w64 (z.2.1 - 146097)), (w64 (z.2.2 - 400)))
  else
    k3 (z.1, z.2.1, z.2.2)
def noonmarkref04_year_s4 (n : Nat) (k3 : noonmarkref04_year_t3 → noonmarkref04_year_R) (r4 : noonmarkref04_year_t4 → noonmarkref04_year_R) (z : noonmarkref04_year_t4) : noonmarkref04_year_R := noonmarkref04_year_p4 n k3 r4 z
theorem noonmarkref04_year_e4 (n : Nat) (k3 : St → noonmarkref04_year_R) (r4 : St → noonmarkref04_year_R) (rc : RC noonmarkref04_year_R) (z : noonmarkref04_year_t4) : codeR rc Tryd.prog noonmarkref04_year_sp n noonmarkref04_year_c1 noonmarkref04_year_a3 (noonmarkref04_year_m4 z) (noonmarkref04_year_K1 r4 k3) = noonmarkref04_year_p4 n (fun y => k3 (noonmarkref04_year_m3 y)) (fun y => r4 (noonmarkref04_year_m4 y)) z := by kernel_rfl
theorem noonmarkref04_year_q4 (n : Nat) (k3 : St → noonmarkref04_year_R) (r4 : St → noonmarkref04_year_R) (z : noonmarkref04_year_t4) : codeK Tryd.prog noonmarkref04_year_sp n noonmarkref04_year_c1 noonmarkref04_year_a3 (noonmarkref04_year_m4 z) (noonmarkref04_year_K1 r4 k3) = noonmarkref04_year_s4 n (fun y => k3 (noonmarkref04_year_m3 y)) (fun y => r4 (noonmarkref04_year_m4 y)) z := by
  rw [codeK_R, noonmarkref04_year_e4]
  rfl
def noonmarkref04_year_p7 (_n : Nat) (_k5 : noonmarkref04_year_t5 → noonmarkref04_year_R) (r6 : noonmarkref04_year_t6 → noonmarkref04_year_R) (z : noonmarkref04_year_t7) : noonmarkref04_year_R :=
  r6 (z.1, z.2.1, (w64 (z.2.2 + 1)))
def noonmarkref04_year_s7 (n : Nat) (k5 : noonmarkref04_year_t5 → noonmarkref04_year_R) (r6 : noonmarkref04_year_t6 → noonmarkref04_year_R) (z : noonmarkref04_year_t7) : noonmarkref04_year_R := noonmarkref04_year_p7 n k5 r6 z
theorem noonmarkref04_year_e7 (n : Nat) (k5 : St → noonmarkref04_year_R) (r6 : St → noonmarkref04_year_R) (rc : RC noonmarkref04_year_R) (z : noonmarkref04_year_t7) : codeR rc Tryd.prog noonmarkref04_year_sp n noonmarkref04_year_c2 noonmarkref04_year_a6 (noonmarkref04_year_m7 z) (noonmarkref04_year_K2 r6 k5) = noonmarkref04_year_p7 n (fun y => k5 (noonmarkref04_year_m5 y)) (fun y => r6 (noonmarkref04_year_m6 y)) z := by kernel_rfl
theorem noonmarkref04_year_q7 (n : Nat) (k5 : St → noonmarkref04_year_R) (r6 : St → noonmarkref04_year_R) (z : noonmarkref04_year_t7) : codeK Tryd.prog noonmarkref04_year_sp n noonmarkref04_year_c2 noonmarkref04_year_a6 (noonmarkref04_year_m7 z) (noonmarkref04_year_K2 r6 k5) = noonmarkref04_year_s7 n (fun y => k5 (noonmarkref04_year_m5 y)) (fun y => r6 (noonmarkref04_year_m6 y)) z := by
  rw [codeK_R, noonmarkref04_year_e7]
  rfl
def noonmarkref04_year_p6 (n : Nat) (k5 : noonmarkref04_year_t5 → noonmarkref04_year_R) (_r6 : noonmarkref04_year_t6 → noonmarkref04_year_R) (k7 : noonmarkref04_year_t7 → noonmarkref04_year_R) (z : noonmarkref04_year_t6) : noonmarkref04_year_R :=
  bif (decide (z.2.2 < z.1)) then
    let t6 := w64 (z.2.1 + 365)
    ((noonmarkref04_Leap n (z.2.2, ()))).bind fun v7 =>
    bif v7.1 then
      k7 (z.1, (w64 (t6 + 1)), z.2.2)
    else
      k7 (z.1, t6, z.2.2)
  else
    k5 z.2.1
def noonmarkref04_year_s6 (n : Nat) (k5 : noonmarkref04_year_t5 → noonmarkref04_year_R) (r6 : noonmarkref04_year_t6 → noonmarkref04_year_R) (z : noonmarkref04_year_t6) : noonmarkref04_year_R := noonmarkref04_year_p6 n k5 r6 (noonmarkref04_year_s7 n k5 r6) z
theorem noonmarkref04_year_e6 (n : Nat) (k5 : St → noonmarkref04_year_R) (r6 : St → noonmarkref04_year_R) (rc : RC noonmarkref04_year_R) (z : noonmarkref04_year_t6) : codeR rc Tryd.prog noonmarkref04_year_sp n noonmarkref04_year_c3 noonmarkref04_year_a9 (noonmarkref04_year_m6 z) (noonmarkref04_year_K3 r6 k5) = noonmarkref04_year_p6 n (fun y => k5 (noonmarkref04_year_m5 y)) (fun y => r6 (noonmarkref04_year_m6 y)) (fun y => rc noonmarkref04_year_c2 noonmarkref04_year_a6 (noonmarkref04_year_m7 y) (noonmarkref04_year_K2 r6 k5)) z := by kernel_rfl
theorem noonmarkref04_year_q6 (n : Nat) (k5 : St → noonmarkref04_year_R) (r6 : St → noonmarkref04_year_R) (z : noonmarkref04_year_t6) : codeK Tryd.prog noonmarkref04_year_sp n noonmarkref04_year_c3 noonmarkref04_year_a9 (noonmarkref04_year_m6 z) (noonmarkref04_year_K3 r6 k5) = noonmarkref04_year_s6 n (fun y => k5 (noonmarkref04_year_m5 y)) (fun y => r6 (noonmarkref04_year_m6 y)) z := by
  have h7 : (fun y => codeK Tryd.prog noonmarkref04_year_sp n noonmarkref04_year_c2 noonmarkref04_year_a6 (noonmarkref04_year_m7 y) (noonmarkref04_year_K2 r6 k5)) = (noonmarkref04_year_s7 n (fun y => k5 (noonmarkref04_year_m5 y)) (fun y => r6 (noonmarkref04_year_m6 y))) := funext fun y => by
    have := noonmarkref04_year_q7 n k5 r6 y
    exact this
  rw [codeK_R, noonmarkref04_year_e6]
  rw [h7]
  rfl
def noonmarkref04_year_p5 (_n : Nat) (z : noonmarkref04_year_t5) : noonmarkref04_year_R :=
  some (z, ())
def noonmarkref04_year_s5 (n : Nat) (z : noonmarkref04_year_t5) : noonmarkref04_year_R := noonmarkref04_year_p5 n z
theorem noonmarkref04_year_e5 (n : Nat) (rc : RC noonmarkref04_year_R) (z : noonmarkref04_year_t5) : codeR rc Tryd.prog noonmarkref04_year_sp n noonmarkref04_year_c4 noonmarkref04_year_a10 (noonmarkref04_year_m5 z) (kFin Tryd.prog noonmarkref04_year_rs Tryd.f62) = noonmarkref04_year_p5 n z := by kernel_rfl
theorem noonmarkref04_year_q5 (n : Nat) (z : noonmarkref04_year_t5) : codeK Tryd.prog noonmarkref04_year_sp n noonmarkref04_year_c4 noonmarkref04_year_a10 (noonmarkref04_year_m5 z) (kFin Tryd.prog noonmarkref04_year_rs Tryd.f62) = noonmarkref04_year_s5 n z := by
  rw [codeK_R, noonmarkref04_year_e5]
  rfl
def noonmarkref04_year_s3 (n : Nat) (z : noonmarkref04_year_t3) : noonmarkref04_year_R :=
  rounds (fun r6 x' => noonmarkref04_year_s6 n (noonmarkref04_year_s5 n) r6 x') n (z.1, z.2.1, z.2.2)
theorem noonmarkref04_year_q3 (n : Nat) (z : noonmarkref04_year_t3) : codeK Tryd.prog noonmarkref04_year_sp n noonmarkref04_year_c5 noonmarkref04_year_a7 (noonmarkref04_year_m3 z) (kFin Tryd.prog noonmarkref04_year_rs Tryd.f62) = noonmarkref04_year_s3 n z :=
  Eq.trans (b := rounds (fun r6 st => codeK Tryd.prog noonmarkref04_year_sp n noonmarkref04_year_c3 noonmarkref04_year_a9 st (noonmarkref04_year_K3 r6 (fun st => codeK Tryd.prog noonmarkref04_year_sp n noonmarkref04_year_c4 noonmarkref04_year_a10 st (kFin Tryd.prog noonmarkref04_year_rs Tryd.f62)))) n (noonmarkref04_year_m6 (z.1, z.2.1, z.2.2))) (by kernel_rfl) (rounds_mk noonmarkref04_year_m6 (fun r6 x' => by
    have h5 : (fun y => codeK Tryd.prog noonmarkref04_year_sp n noonmarkref04_year_c4 noonmarkref04_year_a10 (noonmarkref04_year_m5 y) (kFin Tryd.prog noonmarkref04_year_rs Tryd.f62)) = (noonmarkref04_year_s5 n) := funext fun y => by
      have := noonmarkref04_year_q5 n  y
      exact this
    have := (noonmarkref04_year_q6 n (fun st => codeK Tryd.prog noonmarkref04_year_sp n noonmarkref04_year_c4 noonmarkref04_year_a10 st (kFin Tryd.prog noonmarkref04_year_rs Tryd.f62)) r6 x')
    rw [h5] at this
    exact this) n _)
def noonmarkref04_year_s1 (n : Nat) (z : noonmarkref04_year_t1) : noonmarkref04_year_R :=
  rounds (fun r4 x' => noonmarkref04_year_s4 n (noonmarkref04_year_s3 n) r4 x') n (z.1, z.2.1, z.2.2)
theorem noonmarkref04_year_q1 (n : Nat) (z : noonmarkref04_year_t1) : codeK Tryd.prog noonmarkref04_year_sp n noonmarkref04_year_c6 noonmarkref04_year_a4 (noonmarkref04_year_m1 z) (kFin Tryd.prog noonmarkref04_year_rs Tryd.f62) = noonmarkref04_year_s1 n z :=
  Eq.trans (b := rounds (fun r4 st => codeK Tryd.prog noonmarkref04_year_sp n noonmarkref04_year_c1 noonmarkref04_year_a3 st (noonmarkref04_year_K1 r4 (fun st => codeK Tryd.prog noonmarkref04_year_sp n noonmarkref04_year_c5 noonmarkref04_year_a7 st (kFin Tryd.prog noonmarkref04_year_rs Tryd.f62)))) n (noonmarkref04_year_m4 (z.1, z.2.1, z.2.2))) (by kernel_rfl) (rounds_mk noonmarkref04_year_m4 (fun r4 x' => by
    have h3 : (fun y => codeK Tryd.prog noonmarkref04_year_sp n noonmarkref04_year_c5 noonmarkref04_year_a7 (noonmarkref04_year_m3 y) (kFin Tryd.prog noonmarkref04_year_rs Tryd.f62)) = (noonmarkref04_year_s3 n) := funext fun y => by
      have := noonmarkref04_year_q3 n  y
      exact this
    have := (noonmarkref04_year_q4 n (fun st => codeK Tryd.prog noonmarkref04_year_sp n noonmarkref04_year_c5 noonmarkref04_year_a7 st (kFin Tryd.prog noonmarkref04_year_rs Tryd.f62)) r4 x')
    rw [h3] at this
    exact this) n _)
def noonmarkref04_year_s0 (n : Nat) (z : noonmarkref04_year_t0) : noonmarkref04_year_R :=
  rounds (fun r2 x' => noonmarkref04_year_s2 n (noonmarkref04_year_s1 n) r2 x') n (z.1, z.2.1, z.2.2)
theorem noonmarkref04_year_q0 (n : Nat) (z : noonmarkref04_year_t0) : codeK Tryd.prog noonmarkref04_year_sp n noonmarkref04_year_c7 noonmarkref04_year_a1 (noonmarkref04_year_m0 z) (kFin Tryd.prog noonmarkref04_year_rs Tryd.f62) = noonmarkref04_year_s0 n z :=
  Eq.trans (b := rounds (fun r2 st => codeK Tryd.prog noonmarkref04_year_sp n noonmarkref04_year_c0 noonmarkref04_year_a0 st (noonmarkref04_year_K0 r2 (fun st => codeK Tryd.prog noonmarkref04_year_sp n noonmarkref04_year_c6 noonmarkref04_year_a4 st (kFin Tryd.prog noonmarkref04_year_rs Tryd.f62)))) n (noonmarkref04_year_m2 (z.1, z.2.1, z.2.2))) (by kernel_rfl) (rounds_mk noonmarkref04_year_m2 (fun r2 x' => by
    have h1 : (fun y => codeK Tryd.prog noonmarkref04_year_sp n noonmarkref04_year_c6 noonmarkref04_year_a4 (noonmarkref04_year_m1 y) (kFin Tryd.prog noonmarkref04_year_rs Tryd.f62)) = (noonmarkref04_year_s1 n) := funext fun y => by
      have := noonmarkref04_year_q1 n  y
      exact this
    have := (noonmarkref04_year_q2 n (fun st => codeK Tryd.prog noonmarkref04_year_sp n noonmarkref04_year_c6 noonmarkref04_year_a4 st (kFin Tryd.prog noonmarkref04_year_rs Tryd.f62)) r2 x')
    rw [h1] at this
    exact this) n _)
def noonmarkref04_year_px (_n : Nat) (k0 : noonmarkref04_year_t0 → noonmarkref04_year_R) (x : (Int × Unit)) : noonmarkref04_year_R :=
  k0 (x.1, (0 : Int), (1970 : Int))
def noonmarkref04_year (n : Nat) (x : (Int × Unit)) : noonmarkref04_year_R := noonmarkref04_year_px n (noonmarkref04_year_s0 n) x
theorem noonmarkref04_year_ex (n : Nat) (rc : RC noonmarkref04_year_R) (x : (Int × Unit)) : codeR rc Tryd.prog noonmarkref04_year_sp n (bodyOf Tryd.f62) noonmarkref04_year_an (start noonmarkref04_year_ps x (Func.ntmps Tryd.f62)) (kFin Tryd.prog noonmarkref04_year_rs Tryd.f62) = noonmarkref04_year_px n (fun y => rc noonmarkref04_year_c7 noonmarkref04_year_a1 (noonmarkref04_year_m0 y) (kFin Tryd.prog noonmarkref04_year_rs Tryd.f62)) x := by kernel_rfl
theorem noonmarkref04_year_qx (n : Nat) (x : (Int × Unit)) : codeK Tryd.prog noonmarkref04_year_sp n (bodyOf Tryd.f62) noonmarkref04_year_an (start noonmarkref04_year_ps x (Func.ntmps Tryd.f62)) (kFin Tryd.prog noonmarkref04_year_rs Tryd.f62) = noonmarkref04_year n x := by
  have h0 : (fun y => codeK Tryd.prog noonmarkref04_year_sp n noonmarkref04_year_c7 noonmarkref04_year_a1 (noonmarkref04_year_m0 y) (kFin Tryd.prog noonmarkref04_year_rs Tryd.f62)) = (noonmarkref04_year_s0 n) := funext fun y => by
    have := noonmarkref04_year_q0 n  y
    exact this
  rw [codeK_R, noonmarkref04_year_ex]
  rw [h0]
  rfl
def noonmarkref04_year_spec : Sp := ⟨noonmarkref04_year_ps, noonmarkref04_year_rs, noonmarkref04_year⟩
theorem noonmarkref04_year_ok : SoundX Tryd.prog CX 62 (.f noonmarkref04_year_spec) := sound_of (look_cons noonmarkref04_Leap_ok look_nil) Tryd.func62 (by kernel_rfl) rfl noonmarkref04_year_an noonmarkref04_year_spec rfl rfl noonmarkref04_year_qx

/-! ### noonmark/noonmarkref04.Days -/
abbrev noonmarkref04_Days_ps : Ty := T_api_Day
abbrev noonmarkref04_Days_rs : Ty := T_api_At
def noonmarkref04_Days_sp : Specs := look [(47, .f noonmarkref04_Long_spec), (61, .f noonmarkref04_Right_spec), (62, .f noonmarkref04_year_spec)]
def noonmarkref04_Days_an : An := (.s .o (.s .o (.s .o (.k [] [2,8] 0 (.k [] [0,1,2,8,9] 0 .o (.b (.l [] [0,1,2,8,9] 0 .o))) .o))))
abbrev noonmarkref04_Days_R := Option D_api_At
noncomputable abbrev noonmarkref04_Days_c0 : Code := (cr (cr (cr (cr (bodyOf Tryd.f44)))))
noncomputable abbrev noonmarkref04_Days_c1 : Code := (cl (cl (cr (cl (cr (cr (cr (bodyOf Tryd.f44))))))))
noncomputable abbrev noonmarkref04_Days_c2 : Code := (cr (cl (cr (cr (cr (bodyOf Tryd.f44))))))
noncomputable abbrev noonmarkref04_Days_a0 : An := noonmarkref04_Days_an.right.right.right.right
noncomputable abbrev noonmarkref04_Days_a1 : An := noonmarkref04_Days_an.right.right.right.left.right.left.left
noncomputable abbrev noonmarkref04_Days_a2 : An := noonmarkref04_Days_an.right.right.right
noncomputable abbrev noonmarkref04_Days_a3 : An := noonmarkref04_Days_an.right.right.right.left.right.left
noncomputable abbrev noonmarkref04_Days_a4 : An := noonmarkref04_Days_an.right.right.right.left.right
noncomputable abbrev noonmarkref04_Days_K0 (r2 k0 : St → noonmarkref04_Days_R) : Ex → St → noonmarkref04_Days_R := (kSeq r2 noonmarkref04_Days_a3 (kBlk 0 (kSeq k0 noonmarkref04_Days_a2 (kFin Tryd.prog noonmarkref04_Days_rs Tryd.f44))))
noncomputable abbrev noonmarkref04_Days_K1 (k0 : St → noonmarkref04_Days_R) : Ex → St → noonmarkref04_Days_R := (kSeq k0 noonmarkref04_Days_a2 (kFin Tryd.prog noonmarkref04_Days_rs Tryd.f44))
abbrev noonmarkref04_Days_t0 := Int × Int
def noonmarkref04_Days_m0 (z : noonmarkref04_Days_t0) : St := ⟨(.junk :: .junk :: .v ⟨(.int .i64), z.1⟩ :: jk 5 (.v ⟨(.int .i64), z.2⟩ :: jk 22 [])), []⟩
abbrev noonmarkref04_Days_t1 := Int × Int × Int × Int × Int
def noonmarkref04_Days_m1 (z : noonmarkref04_Days_t1) : St := ⟨(.v ⟨(.int .i64), z.1⟩ :: .v ⟨(.int .i64), z.2.1⟩ :: .v ⟨(.int .i64), z.2.2.1⟩ :: jk 5 (.v ⟨(.int .i64), z.2.2.2.1⟩ :: .v ⟨(.int .i64), z.2.2.2.2⟩ :: jk 21 [])), []⟩
abbrev noonmarkref04_Days_t2 := Int × Int × Int × Int × Int
def noonmarkref04_Days_m2 (z : noonmarkref04_Days_t2) : St := ⟨(.v ⟨(.int .i64), z.1⟩ :: .v ⟨(.int .i64), z.2.1⟩ :: .v ⟨(.int .i64), z.2.2.1⟩ :: jk 5 (.v ⟨(.int .i64), z.2.2.2.1⟩ :: .v ⟨(.int .i64), z.2.2.2.2⟩ :: jk 21 [])), []⟩
def noonmarkref04_Days_p0 (_n : Nat) (z : noonmarkref04_Days_t0) : noonmarkref04_Days_R :=
  some ((w64 ((w64 (z.2 + z.1)) - 1)), ((0 : Int), ()))
def noonmarkref04_Days_s0 (n : Nat) (z : noonmarkref04_Days_t0) : noonmarkref04_Days_R := noonmarkref04_Days_p0 n z
theorem noonmarkref04_Days_e0 (n : Nat) (rc : RC noonmarkref04_Days_R) (z : noonmarkref04_Days_t0) : codeR rc Tryd.prog noonmarkref04_Days_sp n noonmarkref04_Days_c0 noonmarkref04_Days_a0 (noonmarkref04_Days_m0 z) (kFin Tryd.prog noonmarkref04_Days_rs Tryd.f44) = noonmarkref04_Days_p0 n z := by kernel_rfl
theorem noonmarkref04_Days_q0 (n : Nat) (z : noonmarkref04_Days_t0) : codeK Tryd.prog noonmarkref04_Days_sp n noonmarkref04_Days_c0 noonmarkref04_Days_a0 (noonmarkref04_Days_m0 z) (kFin Tryd.prog noonmarkref04_Days_rs Tryd.f44) = noonmarkref04_Days_s0 n z := by
  rw [codeK_R, noonmarkref04_Days_e0]
  rfl
def noonmarkref04_Days_p2 (n : Nat) (k0 : noonmarkref04_Days_t0 → noonmarkref04_Days_R) (r2 : noonmarkref04_Days_t2 → noonmarkref04_Days_R) (z : noonmarkref04_Days_t2) : noonmarkref04_Days_R :=
  bif (decide (z.2.2.2.2 < z.2.1)) then
    ((noonmarkref04_Long n (z.1, (z.2.2.2.2, ())))).bind fun v3 =>
    r2 (z.1, z.2.1, z.2.2.1, (w64 (z.2.2.2.1 + v3.1)), (w64 (z.2.2.2.2 + 1)))
  else
    k0 (z.2.2.1, z.2.2.2.1)
def noonmarkref04_Days_s2 (n : Nat) (k0 : noonmarkref04_Days_t0 → noonmarkref04_Days_R) (r2 : noonmarkref04_Days_t2 → noonmarkref04_Days_R) (z : noonmarkref04_Days_t2) : noonmarkref04_Days_R := noonmarkref04_Days_p2 n k0 r2 z
theorem noonmarkref04_Days_e2 (n : Nat) (k0 : St → noonmarkref04_Days_R) (r2 : St → noonmarkref04_Days_R) (rc : RC noonmarkref04_Days_R) (z : noonmarkref04_Days_t2) : codeR rc Tryd.prog noonmarkref04_Days_sp n noonmarkref04_Days_c1 noonmarkref04_Days_a1 (noonmarkref04_Days_m2 z) (noonmarkref04_Days_K0 r2 k0) = noonmarkref04_Days_p2 n (fun y => k0 (noonmarkref04_Days_m0 y)) (fun y => r2 (noonmarkref04_Days_m2 y)) z := by kernel_rfl
theorem noonmarkref04_Days_q2 (n : Nat) (k0 : St → noonmarkref04_Days_R) (r2 : St → noonmarkref04_Days_R) (z : noonmarkref04_Days_t2) : codeK Tryd.prog noonmarkref04_Days_sp n noonmarkref04_Days_c1 noonmarkref04_Days_a1 (noonmarkref04_Days_m2 z) (noonmarkref04_Days_K0 r2 k0) = noonmarkref04_Days_s2 n (fun y => k0 (noonmarkref04_Days_m0 y)) (fun y => r2 (noonmarkref04_Days_m2 y)) z := by
  rw [codeK_R, noonmarkref04_Days_e2]
  rfl
def noonmarkref04_Days_s1 (n : Nat) (k0 : noonmarkref04_Days_t0 → noonmarkref04_Days_R) (z : noonmarkref04_Days_t1) : noonmarkref04_Days_R :=
  rounds (fun r2 x' => noonmarkref04_Days_s2 n k0 r2 x') n (z.1, z.2.1, z.2.2.1, z.2.2.2.1, z.2.2.2.2)
theorem noonmarkref04_Days_q1 (n : Nat) (k0 : St → noonmarkref04_Days_R) (z : noonmarkref04_Days_t1) : codeK Tryd.prog noonmarkref04_Days_sp n noonmarkref04_Days_c2 noonmarkref04_Days_a4 (noonmarkref04_Days_m1 z) (noonmarkref04_Days_K1 k0) = noonmarkref04_Days_s1 n (fun y => k0 (noonmarkref04_Days_m0 y)) z :=
  Eq.trans (b := rounds (fun r2 st => codeK Tryd.prog noonmarkref04_Days_sp n noonmarkref04_Days_c1 noonmarkref04_Days_a1 st (noonmarkref04_Days_K0 r2 k0)) n (noonmarkref04_Days_m2 (z.1, z.2.1, z.2.2.1, z.2.2.2.1, z.2.2.2.2))) (by kernel_rfl) (rounds_mk noonmarkref04_Days_m2 (fun r2 x' => by
    have := (noonmarkref04_Days_q2 n k0 r2 x')
    exact this) n _)
def noonmarkref04_Days_px (n : Nat) (k0 : noonmarkref04_Days_t0 → noonmarkref04_Days_R) (k1 : noonmarkref04_Days_t1 → noonmarkref04_Days_R) (x : D_api_Day) : noonmarkref04_Days_R :=
  ((noonmarkref04_Right n (x.1, (x.2.1, (x.2.2.1, ()))))).bind fun v1 =>
  bif (!v1.1) then
    some ((0 : Int), ((6 : Int), ()))
  else
    ((noonmarkref04_year n (x.1, ()))).bind fun v2 =>
    k1 (x.1, x.2.1, x.2.2.1, v2.1, (1 : Int))
def noonmarkref04_Days (n : Nat) (x : D_api_Day) : noonmarkref04_Days_R := noonmarkref04_Days_px n (noonmarkref04_Days_s0 n) (noonmarkref04_Days_s1 n (noonmarkref04_Days_s0 n)) x
theorem noonmarkref04_Days_ex (n : Nat) (rc : RC noonmarkref04_Days_R) (x : D_api_Day) : codeR rc Tryd.prog noonmarkref04_Days_sp n (bodyOf Tryd.f44) noonmarkref04_Days_an (start noonmarkref04_Days_ps x (Func.ntmps Tryd.f44)) (kFin Tryd.prog noonmarkref04_Days_rs Tryd.f44) = noonmarkref04_Days_px n (fun y => rc noonmarkref04_Days_c0 noonmarkref04_Days_a0 (noonmarkref04_Days_m0 y) (kFin Tryd.prog noonmarkref04_Days_rs Tryd.f44)) (fun y => rc noonmarkref04_Days_c2 noonmarkref04_Days_a4 (noonmarkref04_Days_m1 y) (noonmarkref04_Days_K1 (fun st => rc noonmarkref04_Days_c0 noonmarkref04_Days_a0 st (kFin Tryd.prog noonmarkref04_Days_rs Tryd.f44)))) x := by kernel_rfl
theorem noonmarkref04_Days_qx (n : Nat) (x : D_api_Day) : codeK Tryd.prog noonmarkref04_Days_sp n (bodyOf Tryd.f44) noonmarkref04_Days_an (start noonmarkref04_Days_ps x (Func.ntmps Tryd.f44)) (kFin Tryd.prog noonmarkref04_Days_rs Tryd.f44) = noonmarkref04_Days n x := by
  have h0 : (fun y => codeK Tryd.prog noonmarkref04_Days_sp n noonmarkref04_Days_c0 noonmarkref04_Days_a0 (noonmarkref04_Days_m0 y) (kFin Tryd.prog noonmarkref04_Days_rs Tryd.f44)) = (noonmarkref04_Days_s0 n) := funext fun y => by
    have := noonmarkref04_Days_q0 n  y
    exact this
  have h1 : (fun y => codeK Tryd.prog noonmarkref04_Days_sp n noonmarkref04_Days_c2 noonmarkref04_Days_a4 (noonmarkref04_Days_m1 y) (noonmarkref04_Days_K1 (fun st => codeK Tryd.prog noonmarkref04_Days_sp n noonmarkref04_Days_c0 noonmarkref04_Days_a0 st (kFin Tryd.prog noonmarkref04_Days_rs Tryd.f44)))) = (noonmarkref04_Days_s1 n (noonmarkref04_Days_s0 n)) := funext fun y => by
    have := noonmarkref04_Days_q1 n (fun st => codeK Tryd.prog noonmarkref04_Days_sp n noonmarkref04_Days_c0 noonmarkref04_Days_a0 st (kFin Tryd.prog noonmarkref04_Days_rs Tryd.f44)) y
    rw [h0] at this; exact this
  rw [codeK_R, noonmarkref04_Days_ex]
  rw [h0]
  rw [h1]
  rfl
def noonmarkref04_Days_spec : Sp := ⟨noonmarkref04_Days_ps, noonmarkref04_Days_rs, noonmarkref04_Days⟩
theorem noonmarkref04_Days_ok : SoundX Tryd.prog CX 44 (.f noonmarkref04_Days_spec) := sound_of (look_cons noonmarkref04_Long_ok (look_cons noonmarkref04_Right_ok (look_cons noonmarkref04_year_ok look_nil))) Tryd.func44 (by kernel_rfl) rfl noonmarkref04_Days_an noonmarkref04_Days_spec rfl rfl noonmarkref04_Days_qx

/-! ### noonmark/noonmarkref04.Week -/
abbrev noonmarkref04_Week_ps : Ty := (.pair (.int .i64) .unit)
abbrev noonmarkref04_Week_rs : Ty := (.pair (.int .i64) .unit)
def noonmarkref04_Week_sp : Specs := look []
def noonmarkref04_Week_an : An := .o
abbrev noonmarkref04_Week_R := Option (Int × Unit)

def noonmarkref04_Week_px (_n : Nat) (x : (Int × Unit)) : noonmarkref04_Week_R :=
  some ((Int.tmod (w64 ((Int.tmod x.1 (7 : Int)) + 11)) (7 : Int)), ())
def noonmarkref04_Week (n : Nat) (x : (Int × Unit)) : noonmarkref04_Week_R := noonmarkref04_Week_px n x
theorem noonmarkref04_Week_ex (n : Nat) (rc : RC noonmarkref04_Week_R) (x : (Int × Unit)) : codeR rc Tryd.prog noonmarkref04_Week_sp n (bodyOf Tryd.f46) noonmarkref04_Week_an (start noonmarkref04_Week_ps x (Func.ntmps Tryd.f46)) (kFin Tryd.prog noonmarkref04_Week_rs Tryd.f46) = noonmarkref04_Week_px n x := by kernel_rfl
theorem noonmarkref04_Week_qx (n : Nat) (x : (Int × Unit)) : codeK Tryd.prog noonmarkref04_Week_sp n (bodyOf Tryd.f46) noonmarkref04_Week_an (start noonmarkref04_Week_ps x (Func.ntmps Tryd.f46)) (kFin Tryd.prog noonmarkref04_Week_rs Tryd.f46) = noonmarkref04_Week n x := by
  rw [codeK_R, noonmarkref04_Week_ex]
  rfl
def noonmarkref04_Week_spec : Sp := ⟨noonmarkref04_Week_ps, noonmarkref04_Week_rs, noonmarkref04_Week⟩
theorem noonmarkref04_Week_ok : SoundX Tryd.prog CX 46 (.f noonmarkref04_Week_spec) := sound_of look_nil Tryd.func46 (by kernel_rfl) rfl noonmarkref04_Week_an noonmarkref04_Week_spec rfl rfl noonmarkref04_Week_qx

/-! ### noonmark/noonmarkref17.Day -/
abbrev noonmarkref17_Day_ps : Ty := (.pair T_noonmarkref17_Edge (.pair (.int .i64) .unit))
abbrev noonmarkref17_Day_rs : Ty := (.pair (.int .i64) .unit)
def noonmarkref17_Day_sp : Specs := look [(44, .f noonmarkref04_Days_spec), (45, .f noonmarkref04_Leap_spec), (46, .f noonmarkref04_Week_spec), (47, .f noonmarkref04_Long_spec)]
def noonmarkref17_Day_an : An := (.s .o (.k [] [1,2] 1 (.s .o (.c (.s .o (.k [] [2,5] 1 .o .o)) .o)) (.k [] [1,2,7] 1 .o (.k [] [1,2,7] 1 (.b (.l [] [1,2,7] 1 .o)) (.s .o (.k [] [7] 0 (.k [] [2,7,9,11] 1 .o (.b (.l [] [2,7,9,11] 1 .o))) .o))))))
abbrev noonmarkref17_Day_R := Option (Int × Unit)
noncomputable abbrev noonmarkref17_Day_c0 : Code := (cl (cl (cl (cr (cr (cr (bodyOf Tryd.f31)))))))
noncomputable abbrev noonmarkref17_Day_c1 : Code := (cr (cr (cr (cr (cr (cr (bodyOf Tryd.f31)))))))
noncomputable abbrev noonmarkref17_Day_c2 : Code := (cl (cl (cr (cl (cr (cr (cr (cr (cr (bodyOf Tryd.f31))))))))))
noncomputable abbrev noonmarkref17_Day_c3 : Code := (cr (cl (cr (cr (cr (cr (cr (bodyOf Tryd.f31))))))))
noncomputable abbrev noonmarkref17_Day_c4 : Code := (cr (cr (cr (cr (bodyOf Tryd.f31)))))
noncomputable abbrev noonmarkref17_Day_c5 : Code := (cr (cr (cr (bodyOf Tryd.f31))))
noncomputable abbrev noonmarkref17_Day_c6 : Code := (cr (cr (bodyOf Tryd.f31)))
noncomputable abbrev noonmarkref17_Day_c7 : Code := (cr (cr (cl (cr (cl (cr (bodyOf Tryd.f31)))))))
noncomputable abbrev noonmarkref17_Day_a0 : An := noonmarkref17_Day_an.right.right.right.left.left.left
noncomputable abbrev noonmarkref17_Day_a1 : An := noonmarkref17_Day_an.right.right.right
noncomputable abbrev noonmarkref17_Day_a2 : An := noonmarkref17_Day_an.right.right.right.left.left
noncomputable abbrev noonmarkref17_Day_a3 : An := noonmarkref17_Day_an.right.right.right.right.right.right
noncomputable abbrev noonmarkref17_Day_a4 : An := noonmarkref17_Day_an.right.right.right.right.right.left.right.left.left
noncomputable abbrev noonmarkref17_Day_a5 : An := noonmarkref17_Day_an.right.right.right.right.right
noncomputable abbrev noonmarkref17_Day_a6 : An := noonmarkref17_Day_an.right.right.right.right.right.left.right.left
noncomputable abbrev noonmarkref17_Day_a7 : An := noonmarkref17_Day_an.right.right.right.right.right.left.right
noncomputable abbrev noonmarkref17_Day_a8 : An := noonmarkref17_Day_an.right.right.right.right
noncomputable abbrev noonmarkref17_Day_a9 : An := noonmarkref17_Day_an.right.right
noncomputable abbrev noonmarkref17_Day_a10 : An := noonmarkref17_Day_an.right.left.right.left.right.right
noncomputable abbrev noonmarkref17_Day_K0 (r4 k3 : St → noonmarkref17_Day_R) : Ex → St → noonmarkref17_Day_R := (kSeq r4 noonmarkref17_Day_a2 (kBlk 0 (kSeq k3 noonmarkref17_Day_a1 (kFin Tryd.prog noonmarkref17_Day_rs Tryd.f31))))
noncomputable abbrev noonmarkref17_Day_K1 (r7 k5 : St → noonmarkref17_Day_R) : Ex → St → noonmarkref17_Day_R := (kSeq r7 noonmarkref17_Day_a6 (kBlk 2 (kSeq k5 noonmarkref17_Day_a5 (kFin Tryd.prog noonmarkref17_Day_rs Tryd.f31))))
noncomputable abbrev noonmarkref17_Day_K2 (k5 : St → noonmarkref17_Day_R) : Ex → St → noonmarkref17_Day_R := (kSeq k5 noonmarkref17_Day_a5 (kFin Tryd.prog noonmarkref17_Day_rs Tryd.f31))
noncomputable abbrev noonmarkref17_Day_K3 (k0 : St → noonmarkref17_Day_R) : Ex → St → noonmarkref17_Day_R := (kSeq k0 noonmarkref17_Day_an.right (kFin Tryd.prog noonmarkref17_Day_rs Tryd.f31))
abbrev noonmarkref17_Day_t0 := Int × D_noonmarkref17_Edge
def noonmarkref17_Day_m0 (z : noonmarkref17_Day_t0) : St := ⟨(.junk :: .v ⟨(.int .i64), z.1⟩ :: .v ⟨(.ptr 0 0 T_noonmarkref17_Edge), ()⟩ :: jk 70 []), [some (.one ⟨T_noonmarkref17_Edge, z.2⟩)]⟩
abbrev noonmarkref17_Day_t1 := Int × D_noonmarkref17_Edge
def noonmarkref17_Day_m1 (z : noonmarkref17_Day_t1) : St := ⟨(.junk :: .junk :: .v ⟨(.ptr 0 0 T_noonmarkref17_Edge), ()⟩ :: .junk :: .junk :: .v ⟨(.int .i64), z.1⟩ :: jk 67 []), [some (.one ⟨T_noonmarkref17_Edge, z.2⟩)]⟩
abbrev noonmarkref17_Day_t2 := Int × Int × D_noonmarkref17_Edge
def noonmarkref17_Day_m2 (z : noonmarkref17_Day_t2) : St := ⟨(.junk :: .v ⟨(.int .i64), z.1⟩ :: .v ⟨(.ptr 0 0 T_noonmarkref17_Edge), ()⟩ :: jk 4 (.v ⟨(.int .i64), z.2.1⟩ :: jk 65 [])), [some (.one ⟨T_noonmarkref17_Edge, z.2.2⟩)]⟩
abbrev noonmarkref17_Day_t3 := Int × Int × D_noonmarkref17_Edge
def noonmarkref17_Day_m3 (z : noonmarkref17_Day_t3) : St := ⟨(.junk :: .v ⟨(.int .i64), z.1⟩ :: .v ⟨(.ptr 0 0 T_noonmarkref17_Edge), ()⟩ :: jk 4 (.v ⟨(.int .i64), z.2.1⟩ :: jk 65 [])), [some (.one ⟨T_noonmarkref17_Edge, z.2.2⟩)]⟩
abbrev noonmarkref17_Day_t4 := Int × Int × D_noonmarkref17_Edge
def noonmarkref17_Day_m4 (z : noonmarkref17_Day_t4) : St := ⟨(.junk :: .v ⟨(.int .i64), z.1⟩ :: .v ⟨(.ptr 0 0 T_noonmarkref17_Edge), ()⟩ :: jk 4 (.v ⟨(.int .i64), z.2.1⟩ :: jk 65 [])), [some (.one ⟨T_noonmarkref17_Edge, z.2.2⟩)]⟩
abbrev noonmarkref17_Day_t5 := Int
def noonmarkref17_Day_m5 (z : noonmarkref17_Day_t5) : St := ⟨(jk 7 (.v ⟨(.int .i64), z⟩ :: jk 65 [])), []⟩
abbrev noonmarkref17_Day_t6 := Int × Int × Int × D_noonmarkref17_Edge
def noonmarkref17_Day_m6 (z : noonmarkref17_Day_t6) : St := ⟨(.junk :: .junk :: .v ⟨(.ptr 0 0 T_noonmarkref17_Edge), ()⟩ :: jk 4 (.v ⟨(.int .i64), z.1⟩ :: .junk :: .v ⟨(.int .i64), z.2.1⟩ :: .junk :: .v ⟨(.int .i64), z.2.2.1⟩ :: jk 61 [])), [some (.one ⟨T_noonmarkref17_Edge, z.2.2.2⟩)]⟩
abbrev noonmarkref17_Day_t7 := Int × Int × Int × D_noonmarkref17_Edge
def noonmarkref17_Day_m7 (z : noonmarkref17_Day_t7) : St := ⟨(.junk :: .junk :: .v ⟨(.ptr 0 0 T_noonmarkref17_Edge), ()⟩ :: jk 4 (.v ⟨(.int .i64), z.1⟩ :: .junk :: .v ⟨(.int .i64), z.2.1⟩ :: .junk :: .v ⟨(.int .i64), z.2.2.1⟩ :: jk 61 [])), [some (.one ⟨T_noonmarkref17_Edge, z.2.2.2⟩)]⟩
def noonmarkref17_Day_p4 (n : Nat) (k3 : noonmarkref17_Day_t3 → noonmarkref17_Day_R) (r4 : noonmarkref17_Day_t4 → noonmarkref17_Day_R) (z : noonmarkref17_Day_t4) : noonmarkref17_Day_R :=
  ((noonmarkref04_Week n (z.2.1, ()))).bind fun v7 =>
  bif (v7.1 != z.2.2.2.1) then
    r4 (z.1, (w64 (z.2.1 + 1)), z.2.2)
  else
    k3 (z.1, z.2.1, z.2.2)
def noonmarkref17_Day_s4 (n : Nat) (k3 : noonmarkref17_Day_t3 → noonmarkref17_Day_R) (r4 : noonmarkref17_Day_t4 → noonmarkref17_Day_R) (z : noonmarkref17_Day_t4) : noonmarkref17_Day_R := noonmarkref17_Day_p4 n k3 r4 z
theorem noonmarkref17_Day_e4 (n : Nat) (k3 : St → noonmarkref17_Day_R) (r4 : St → noonmarkref17_Day_R) (rc : RC noonmarkref17_Day_R) (z : noonmarkref17_Day_t4) : codeR rc Tryd.prog noonmarkref17_Day_sp n noonmarkref17_Day_c0 noonmarkref17_Day_a0 (noonmarkref17_Day_m4 z) (noonmarkref17_Day_K0 r4 k3) = noonmarkref17_Day_p4 n (fun y => k3 (noonmarkref17_Day_m3 y)) (fun y => r4 (noonmarkref17_Day_m4 y)) z := by kernel_rfl
theorem noonmarkref17_Day_q4 (n : Nat) (k3 : St → noonmarkref17_Day_R) (r4 : St → noonmarkref17_Day_R) (z : noonmarkref17_Day_t4) : codeK Tryd.prog noonmarkref17_Day_sp n noonmarkref17_Day_c0 noonmarkref17_Day_a0 (noonmarkref17_Day_m4 z) (noonmarkref17_Day_K0 r4 k3) = noonmarkref17_Day_s4 n (fun y => k3 (noonmarkref17_Day_m3 y)) (fun y => r4 (noonmarkref17_Day_m4 y)) z := by
  rw [codeK_R, noonmarkref17_Day_e4]
  rfl
def noonmarkref17_Day_p5 (_n : Nat) (z : noonmarkref17_Day_t5) : noonmarkref17_Day_R :=
  some (z, ())
def noonmarkref17_Day_s5 (n : Nat) (z : noonmarkref17_Day_t5) : noonmarkref17_Day_R := noonmarkref17_Day_p5 n z
theorem noonmarkref17_Day_e5 (n : Nat) (rc : RC noonmarkref17_Day_R) (z : noonmarkref17_Day_t5) : codeR rc Tryd.prog noonmarkref17_Day_sp n noonmarkref17_Day_c1 noonmarkref17_Day_a3 (noonmarkref17_Day_m5 z) (kFin Tryd.prog noonmarkref17_Day_rs Tryd.f31) = noonmarkref17_Day_p5 n z := by kernel_rfl
theorem noonmarkref17_Day_q5 (n : Nat) (z : noonmarkref17_Day_t5) : codeK Tryd.prog noonmarkref17_Day_sp n noonmarkref17_Day_c1 noonmarkref17_Day_a3 (noonmarkref17_Day_m5 z) (kFin Tryd.prog noonmarkref17_Day_rs Tryd.f31) = noonmarkref17_Day_s5 n z := by
  rw [codeK_R, noonmarkref17_Day_e5]
  rfl
def noonmarkref17_Day_p7 (_n : Nat) (k5 : noonmarkref17_Day_t5 → noonmarkref17_Day_R) (r7 : noonmarkref17_Day_t7 → noonmarkref17_Day_R) (z : noonmarkref17_Day_t7) : noonmarkref17_Day_R :=
  bif (decide (z.2.2.1 < z.2.2.2.2.2.2.1)) then
    bif (decide ((w64 (z.1 + 7)) ≤ z.2.1)) then
      r7 ((w64 (z.1 + 7)), z.2.1, (w64 (z.2.2.1 + 1)), z.2.2.2)
    else
      k5 z.1
  else
    k5 z.1
def noonmarkref17_Day_s7 (n : Nat) (k5 : noonmarkref17_Day_t5 → noonmarkref17_Day_R) (r7 : noonmarkref17_Day_t7 → noonmarkref17_Day_R) (z : noonmarkref17_Day_t7) : noonmarkref17_Day_R := noonmarkref17_Day_p7 n k5 r7 z
theorem noonmarkref17_Day_e7 (n : Nat) (k5 : St → noonmarkref17_Day_R) (r7 : St → noonmarkref17_Day_R) (rc : RC noonmarkref17_Day_R) (z : noonmarkref17_Day_t7) : codeR rc Tryd.prog noonmarkref17_Day_sp n noonmarkref17_Day_c2 noonmarkref17_Day_a4 (noonmarkref17_Day_m7 z) (noonmarkref17_Day_K1 r7 k5) = noonmarkref17_Day_p7 n (fun y => k5 (noonmarkref17_Day_m5 y)) (fun y => r7 (noonmarkref17_Day_m7 y)) z := by kernel_rfl
theorem noonmarkref17_Day_q7 (n : Nat) (k5 : St → noonmarkref17_Day_R) (r7 : St → noonmarkref17_Day_R) (z : noonmarkref17_Day_t7) : codeK Tryd.prog noonmarkref17_Day_sp n noonmarkref17_Day_c2 noonmarkref17_Day_a4 (noonmarkref17_Day_m7 z) (noonmarkref17_Day_K1 r7 k5) = noonmarkref17_Day_s7 n (fun y => k5 (noonmarkref17_Day_m5 y)) (fun y => r7 (noonmarkref17_Day_m7 y)) z := by
  rw [codeK_R, noonmarkref17_Day_e7]
  rfl
def noonmarkref17_Day_s6 (n : Nat) (k5 : noonmarkref17_Day_t5 → noonmarkref17_Day_R) (z : noonmarkref17_Day_t6) : noonmarkref17_Day_R :=
  rounds (fun r7 x' => noonmarkref17_Day_s7 n k5 r7 x') n (z.1, z.2.1, z.2.2.1, z.2.2.2)
theorem noonmarkref17_Day_q6 (n : Nat) (k5 : St → noonmarkref17_Day_R) (z : noonmarkref17_Day_t6) : codeK Tryd.prog noonmarkref17_Day_sp n noonmarkref17_Day_c3 noonmarkref17_Day_a7 (noonmarkref17_Day_m6 z) (noonmarkref17_Day_K2 k5) = noonmarkref17_Day_s6 n (fun y => k5 (noonmarkref17_Day_m5 y)) z :=
  Eq.trans (b := rounds (fun r7 st => codeK Tryd.prog noonmarkref17_Day_sp n noonmarkref17_Day_c2 noonmarkref17_Day_a4 st (noonmarkref17_Day_K1 r7 k5)) n (noonmarkref17_Day_m7 (z.1, z.2.1, z.2.2.1, z.2.2.2))) (by kernel_rfl) (rounds_mk noonmarkref17_Day_m7 (fun r7 x' => by
    have := (noonmarkref17_Day_q7 n k5 r7 x')
    exact this) n _)
def noonmarkref17_Day_p3 (n : Nat) (k5 : noonmarkref17_Day_t5 → noonmarkref17_Day_R) (k6 : noonmarkref17_Day_t6 → noonmarkref17_Day_R) (z : noonmarkref17_Day_t3) : noonmarkref17_Day_R :=
  ((noonmarkref04_Long n (z.1, (z.2.2.2.2.1, ())))).bind fun v9 =>
  ((noonmarkref04_Days n (z.1, (z.2.2.2.2.1, (v9.1, ()))))).bind fun v10 =>
  k6 (z.2.1, v10.1, (1 : Int), z.2.2)
def noonmarkref17_Day_s3 (n : Nat) (z : noonmarkref17_Day_t3) : noonmarkref17_Day_R := noonmarkref17_Day_p3 n (noonmarkref17_Day_s5 n) (noonmarkref17_Day_s6 n (noonmarkref17_Day_s5 n)) z
theorem noonmarkref17_Day_e3 (n : Nat) (rc : RC noonmarkref17_Day_R) (z : noonmarkref17_Day_t3) : codeR rc Tryd.prog noonmarkref17_Day_sp n noonmarkref17_Day_c4 noonmarkref17_Day_a8 (noonmarkref17_Day_m3 z) (kFin Tryd.prog noonmarkref17_Day_rs Tryd.f31) = noonmarkref17_Day_p3 n (fun y => rc noonmarkref17_Day_c1 noonmarkref17_Day_a3 (noonmarkref17_Day_m5 y) (kFin Tryd.prog noonmarkref17_Day_rs Tryd.f31)) (fun y => rc noonmarkref17_Day_c3 noonmarkref17_Day_a7 (noonmarkref17_Day_m6 y) (noonmarkref17_Day_K2 (fun st => rc noonmarkref17_Day_c1 noonmarkref17_Day_a3 st (kFin Tryd.prog noonmarkref17_Day_rs Tryd.f31)))) z := by kernel_rfl
theorem noonmarkref17_Day_q3 (n : Nat) (z : noonmarkref17_Day_t3) : codeK Tryd.prog noonmarkref17_Day_sp n noonmarkref17_Day_c4 noonmarkref17_Day_a8 (noonmarkref17_Day_m3 z) (kFin Tryd.prog noonmarkref17_Day_rs Tryd.f31) = noonmarkref17_Day_s3 n z := by
  have h5 : (fun y => codeK Tryd.prog noonmarkref17_Day_sp n noonmarkref17_Day_c1 noonmarkref17_Day_a3 (noonmarkref17_Day_m5 y) (kFin Tryd.prog noonmarkref17_Day_rs Tryd.f31)) = (noonmarkref17_Day_s5 n) := funext fun y => by
    have := noonmarkref17_Day_q5 n  y
    exact this
  have h6 : (fun y => codeK Tryd.prog noonmarkref17_Day_sp n noonmarkref17_Day_c3 noonmarkref17_Day_a7 (noonmarkref17_Day_m6 y) (noonmarkref17_Day_K2 (fun st => codeK Tryd.prog noonmarkref17_Day_sp n noonmarkref17_Day_c1 noonmarkref17_Day_a3 st (kFin Tryd.prog noonmarkref17_Day_rs Tryd.f31)))) = (noonmarkref17_Day_s6 n (noonmarkref17_Day_s5 n)) := funext fun y => by
    have := noonmarkref17_Day_q6 n (fun st => codeK Tryd.prog noonmarkref17_Day_sp n noonmarkref17_Day_c1 noonmarkref17_Day_a3 st (kFin Tryd.prog noonmarkref17_Day_rs Tryd.f31)) y
    rw [h5] at this; exact this
  rw [codeK_R, noonmarkref17_Day_e3]
  rw [h5]
  rw [h6]
  rfl
def noonmarkref17_Day_s2 (n : Nat) (z : noonmarkref17_Day_t2) : noonmarkref17_Day_R :=
  rounds (fun r4 x' => noonmarkref17_Day_s4 n (noonmarkref17_Day_s3 n) r4 x') n (z.1, z.2.1, z.2.2)
theorem noonmarkref17_Day_q2 (n : Nat) (z : noonmarkref17_Day_t2) : codeK Tryd.prog noonmarkref17_Day_sp n noonmarkref17_Day_c5 noonmarkref17_Day_a1 (noonmarkref17_Day_m2 z) (kFin Tryd.prog noonmarkref17_Day_rs Tryd.f31) = noonmarkref17_Day_s2 n z :=
  Eq.trans (b := rounds (fun r4 st => codeK Tryd.prog noonmarkref17_Day_sp n noonmarkref17_Day_c0 noonmarkref17_Day_a0 st (noonmarkref17_Day_K0 r4 (fun st => codeK Tryd.prog noonmarkref17_Day_sp n noonmarkref17_Day_c4 noonmarkref17_Day_a8 st (kFin Tryd.prog noonmarkref17_Day_rs Tryd.f31)))) n (noonmarkref17_Day_m4 (z.1, z.2.1, z.2.2))) (by kernel_rfl) (rounds_mk noonmarkref17_Day_m4 (fun r4 x' => by
    have h3 : (fun y => codeK Tryd.prog noonmarkref17_Day_sp n noonmarkref17_Day_c4 noonmarkref17_Day_a8 (noonmarkref17_Day_m3 y) (kFin Tryd.prog noonmarkref17_Day_rs Tryd.f31)) = (noonmarkref17_Day_s3 n) := funext fun y => by
      have := noonmarkref17_Day_q3 n  y
      exact this
    have := (noonmarkref17_Day_q4 n (fun st => codeK Tryd.prog noonmarkref17_Day_sp n noonmarkref17_Day_c4 noonmarkref17_Day_a8 st (kFin Tryd.prog noonmarkref17_Day_rs Tryd.f31)) r4 x')
    rw [h3] at this
    exact this) n _)
def noonmarkref17_Day_p0 (n : Nat) (k2 : noonmarkref17_Day_t2 → noonmarkref17_Day_R) (z : noonmarkref17_Day_t0) : noonmarkref17_Day_R :=
  ((noonmarkref04_Days n (z.1, (z.2.2.2.1, ((1 : Int), ()))))).bind fun v4 =>
  k2 (z.1, v4.1, z.2)
def noonmarkref17_Day_s0 (n : Nat) (z : noonmarkref17_Day_t0) : noonmarkref17_Day_R := noonmarkref17_Day_p0 n (noonmarkref17_Day_s2 n) z
theorem noonmarkref17_Day_e0 (n : Nat) (rc : RC noonmarkref17_Day_R) (z : noonmarkref17_Day_t0) : codeR rc Tryd.prog noonmarkref17_Day_sp n noonmarkref17_Day_c6 noonmarkref17_Day_a9 (noonmarkref17_Day_m0 z) (kFin Tryd.prog noonmarkref17_Day_rs Tryd.f31) = noonmarkref17_Day_p0 n (fun y => rc noonmarkref17_Day_c5 noonmarkref17_Day_a1 (noonmarkref17_Day_m2 y) (kFin Tryd.prog noonmarkref17_Day_rs Tryd.f31)) z := by kernel_rfl
theorem noonmarkref17_Day_q0 (n : Nat) (z : noonmarkref17_Day_t0) : codeK Tryd.prog noonmarkref17_Day_sp n noonmarkref17_Day_c6 noonmarkref17_Day_a9 (noonmarkref17_Day_m0 z) (kFin Tryd.prog noonmarkref17_Day_rs Tryd.f31) = noonmarkref17_Day_s0 n z := by
  have h2 : (fun y => codeK Tryd.prog noonmarkref17_Day_sp n noonmarkref17_Day_c5 noonmarkref17_Day_a1 (noonmarkref17_Day_m2 y) (kFin Tryd.prog noonmarkref17_Day_rs Tryd.f31)) = (noonmarkref17_Day_s2 n) := funext fun y => by
    have := noonmarkref17_Day_q2 n  y
    exact this
  rw [codeK_R, noonmarkref17_Day_e0]
  rw [h2]
  rfl
def noonmarkref17_Day_p1 (_n : Nat) (_k0 : noonmarkref17_Day_t0 → noonmarkref17_Day_R) (z : noonmarkref17_Day_t1) : noonmarkref17_Day_R :=
  some ((w64 ((w64 (z.1 + z.2.2.1)) - 1)), ())
def noonmarkref17_Day_s1 (n : Nat) (k0 : noonmarkref17_Day_t0 → noonmarkref17_Day_R) (z : noonmarkref17_Day_t1) : noonmarkref17_Day_R := noonmarkref17_Day_p1 n k0 z
theorem noonmarkref17_Day_e1 (n : Nat) (k0 : St → noonmarkref17_Day_R) (rc : RC noonmarkref17_Day_R) (z : noonmarkref17_Day_t1) : codeR rc Tryd.prog noonmarkref17_Day_sp n noonmarkref17_Day_c7 noonmarkref17_Day_a10 (noonmarkref17_Day_m1 z) (noonmarkref17_Day_K3 k0) = noonmarkref17_Day_p1 n (fun y => k0 (noonmarkref17_Day_m0 y)) z := by kernel_rfl
theorem noonmarkref17_Day_q1 (n : Nat) (k0 : St → noonmarkref17_Day_R) (z : noonmarkref17_Day_t1) : codeK Tryd.prog noonmarkref17_Day_sp n noonmarkref17_Day_c7 noonmarkref17_Day_a10 (noonmarkref17_Day_m1 z) (noonmarkref17_Day_K3 k0) = noonmarkref17_Day_s1 n (fun y => k0 (noonmarkref17_Day_m0 y)) z := by
  rw [codeK_R, noonmarkref17_Day_e1]
  rfl
def noonmarkref17_Day_px (n : Nat) (k0 : noonmarkref17_Day_t0 → noonmarkref17_Day_R) (k1 : noonmarkref17_Day_t1 → noonmarkref17_Day_R) (x : (D_noonmarkref17_Edge × (Int × Unit))) : noonmarkref17_Day_R :=
  bif x.1.1 then
    ((noonmarkref04_Days n (x.2.1, ((1 : Int), ((1 : Int), ()))))).bind fun v1 =>
    ((noonmarkref04_Leap n (x.2.1, ()))).bind fun v2 =>
    bif v2.1 then
      bif (decide (x.1.2.1 ≥ 60)) then
        k1 ((w64 (v1.1 + 1)), x.1)
      else
        k1 (v1.1, x.1)
    else
      k1 (v1.1, x.1)
  else
    k0 (x.2.1, x.1)
def noonmarkref17_Day (n : Nat) (x : (D_noonmarkref17_Edge × (Int × Unit))) : noonmarkref17_Day_R := noonmarkref17_Day_px n (noonmarkref17_Day_s0 n) (noonmarkref17_Day_s1 n (noonmarkref17_Day_s0 n)) x
theorem noonmarkref17_Day_ex (n : Nat) (rc : RC noonmarkref17_Day_R) (x : (D_noonmarkref17_Edge × (Int × Unit))) : codeR rc Tryd.prog noonmarkref17_Day_sp n (bodyOf Tryd.f31) noonmarkref17_Day_an (start noonmarkref17_Day_ps x (Func.ntmps Tryd.f31)) (kFin Tryd.prog noonmarkref17_Day_rs Tryd.f31) = noonmarkref17_Day_px n (fun y => rc noonmarkref17_Day_c6 noonmarkref17_Day_a9 (noonmarkref17_Day_m0 y) (kFin Tryd.prog noonmarkref17_Day_rs Tryd.f31)) (fun y => rc noonmarkref17_Day_c7 noonmarkref17_Day_a10 (noonmarkref17_Day_m1 y) (noonmarkref17_Day_K3 (fun st => rc noonmarkref17_Day_c6 noonmarkref17_Day_a9 st (kFin Tryd.prog noonmarkref17_Day_rs Tryd.f31)))) x := by kernel_rfl
theorem noonmarkref17_Day_qx (n : Nat) (x : (D_noonmarkref17_Edge × (Int × Unit))) : codeK Tryd.prog noonmarkref17_Day_sp n (bodyOf Tryd.f31) noonmarkref17_Day_an (start noonmarkref17_Day_ps x (Func.ntmps Tryd.f31)) (kFin Tryd.prog noonmarkref17_Day_rs Tryd.f31) = noonmarkref17_Day n x := by
  have h0 : (fun y => codeK Tryd.prog noonmarkref17_Day_sp n noonmarkref17_Day_c6 noonmarkref17_Day_a9 (noonmarkref17_Day_m0 y) (kFin Tryd.prog noonmarkref17_Day_rs Tryd.f31)) = (noonmarkref17_Day_s0 n) := funext fun y => by
    have := noonmarkref17_Day_q0 n  y
    exact this
  have h1 : (fun y => codeK Tryd.prog noonmarkref17_Day_sp n noonmarkref17_Day_c7 noonmarkref17_Day_a10 (noonmarkref17_Day_m1 y) (noonmarkref17_Day_K3 (fun st => codeK Tryd.prog noonmarkref17_Day_sp n noonmarkref17_Day_c6 noonmarkref17_Day_a9 st (kFin Tryd.prog noonmarkref17_Day_rs Tryd.f31)))) = (noonmarkref17_Day_s1 n (noonmarkref17_Day_s0 n)) := funext fun y => by
    have := noonmarkref17_Day_q1 n (fun st => codeK Tryd.prog noonmarkref17_Day_sp n noonmarkref17_Day_c6 noonmarkref17_Day_a9 st (kFin Tryd.prog noonmarkref17_Day_rs Tryd.f31)) y
    rw [h0] at this; exact this
  rw [codeK_R, noonmarkref17_Day_ex]
  rw [h0]
  rw [h1]
  rfl
def noonmarkref17_Day_spec : Sp := ⟨noonmarkref17_Day_ps, noonmarkref17_Day_rs, noonmarkref17_Day⟩
theorem noonmarkref17_Day_ok : SoundX Tryd.prog CX 31 (.f noonmarkref17_Day_spec) := sound_of (look_cons noonmarkref04_Days_ok (look_cons noonmarkref04_Leap_ok (look_cons noonmarkref04_Week_ok (look_cons noonmarkref04_Long_ok look_nil)))) Tryd.func31 (by kernel_rfl) rfl noonmarkref17_Day_an noonmarkref17_Day_spec rfl rfl noonmarkref17_Day_qx

/-! ### noonmark/noonmarkref26.start -/
abbrev noonmarkref26_start_ps : Ty := (.pair T_noonmarkref17_Spec (.pair (.int .i64) .unit))
abbrev noonmarkref26_start_rs : Ty := (.pair (.int .i64) .unit)
def noonmarkref26_start_sp : Specs := look [(31, .f noonmarkref17_Day_spec)]
def noonmarkref26_start_an : An := .o
abbrev noonmarkref26_start_R := Option (Int × Unit)

def noonmarkref26_start_px (n : Nat) (x : (D_noonmarkref17_Spec × (Int × Unit))) : noonmarkref26_start_R :=
  ((noonmarkref17_Day n (x.1.2.2.2.2.1, (x.2.1, ())))).bind fun v1 =>
  some ((w64 ((w64 ((w64 (v1.1 * 86400)) + x.1.2.2.2.2.1.2.2.2.2.1)) - x.1.2.1)), ())
def noonmarkref26_start (n : Nat) (x : (D_noonmarkref17_Spec × (Int × Unit))) : noonmarkref26_start_R := noonmarkref26_start_px n x
theorem noonmarkref26_start_ex (n : Nat) (rc : RC noonmarkref26_start_R) (x : (D_noonmarkref17_Spec × (Int × Unit))) : codeR rc Tryd.prog noonmarkref26_start_sp n (bodyOf Tryd.f18) noonmarkref26_start_an (start noonmarkref26_start_ps x (Func.ntmps Tryd.f18)) (kFin Tryd.prog noonmarkref26_start_rs Tryd.f18) = noonmarkref26_start_px n x := by kernel_rfl
theorem noonmarkref26_start_qx (n : Nat) (x : (D_noonmarkref17_Spec × (Int × Unit))) : codeK Tryd.prog noonmarkref26_start_sp n (bodyOf Tryd.f18) noonmarkref26_start_an (start noonmarkref26_start_ps x (Func.ntmps Tryd.f18)) (kFin Tryd.prog noonmarkref26_start_rs Tryd.f18) = noonmarkref26_start n x := by
  rw [codeK_R, noonmarkref26_start_ex]
  rfl
def noonmarkref26_start_spec : Sp := ⟨noonmarkref26_start_ps, noonmarkref26_start_rs, noonmarkref26_start⟩
theorem noonmarkref26_start_ok : SoundX Tryd.prog CX 18 (.f noonmarkref26_start_spec) := sound_of (look_cons noonmarkref17_Day_ok look_nil) Tryd.func18 (by kernel_rfl) rfl noonmarkref26_start_an noonmarkref26_start_spec rfl rfl noonmarkref26_start_qx

/-! ### noonmark/noonmarkref26.end -/
abbrev noonmarkref26_end_ps : Ty := (.pair T_noonmarkref17_Spec (.pair (.int .i64) .unit))
abbrev noonmarkref26_end_rs : Ty := (.pair (.int .i64) .unit)
def noonmarkref26_end_sp : Specs := look [(31, .f noonmarkref17_Day_spec)]
def noonmarkref26_end_an : An := .o
abbrev noonmarkref26_end_R := Option (Int × Unit)

def noonmarkref26_end_px (n : Nat) (x : (D_noonmarkref17_Spec × (Int × Unit))) : noonmarkref26_end_R :=
  ((noonmarkref17_Day n (x.1.2.2.2.2.2.1, (x.2.1, ())))).bind fun v1 =>
  some ((w64 ((w64 ((w64 (v1.1 * 86400)) + x.1.2.2.2.2.2.1.2.2.2.2.1)) - x.1.2.2.2.1)), ())
def noonmarkref26_end (n : Nat) (x : (D_noonmarkref17_Spec × (Int × Unit))) : noonmarkref26_end_R := noonmarkref26_end_px n x
theorem noonmarkref26_end_ex (n : Nat) (rc : RC noonmarkref26_end_R) (x : (D_noonmarkref17_Spec × (Int × Unit))) : codeR rc Tryd.prog noonmarkref26_end_sp n (bodyOf Tryd.f19) noonmarkref26_end_an (start noonmarkref26_end_ps x (Func.ntmps Tryd.f19)) (kFin Tryd.prog noonmarkref26_end_rs Tryd.f19) = noonmarkref26_end_px n x := by kernel_rfl
theorem noonmarkref26_end_qx (n : Nat) (x : (D_noonmarkref17_Spec × (Int × Unit))) : codeK Tryd.prog noonmarkref26_end_sp n (bodyOf Tryd.f19) noonmarkref26_end_an (start noonmarkref26_end_ps x (Func.ntmps Tryd.f19)) (kFin Tryd.prog noonmarkref26_end_rs Tryd.f19) = noonmarkref26_end n x := by
  rw [codeK_R, noonmarkref26_end_ex]
  rfl
def noonmarkref26_end_spec : Sp := ⟨noonmarkref26_end_ps, noonmarkref26_end_rs, noonmarkref26_end⟩
theorem noonmarkref26_end_ok : SoundX Tryd.prog CX 19 (.f noonmarkref26_end_spec) := sound_of (look_cons noonmarkref17_Day_ok look_nil) Tryd.func19 (by kernel_rfl) rfl noonmarkref26_end_an noonmarkref26_end_spec rfl rfl noonmarkref26_end_qx

/-! ### noonmark/noonmarkref26.Simple -/
abbrev noonmarkref26_Simple_ps : Ty := T_posix_spec
abbrev noonmarkref26_Simple_rs : Ty := T_posix_spec
def noonmarkref26_Simple_sp : Specs := look [(17, .f noonmarkref17_Right_spec), (18, .f noonmarkref26_start_spec), (19, .f noonmarkref26_end_spec)]
def noonmarkref26_Simple_an : An := (.s .o (.s .o (.k [] [1,2] 2 (.k [] [1,2,3] 2 .o (.b (.l [] [1,2,3] 2 .o))) .o)))
abbrev noonmarkref26_Simple_R := Option D_posix_spec
noncomputable abbrev noonmarkref26_Simple_c0 : Code := (cr (cr (cr (bodyOf Tryd.f8))))
noncomputable abbrev noonmarkref26_Simple_c1 : Code := (cl (cl (cr (cl (cr (cr (bodyOf Tryd.f8)))))))
noncomputable abbrev noonmarkref26_Simple_c2 : Code := (cr (cl (cr (cr (bodyOf Tryd.f8)))))
noncomputable abbrev noonmarkref26_Simple_a0 : An := noonmarkref26_Simple_an.right.right.right
noncomputable abbrev noonmarkref26_Simple_a1 : An := noonmarkref26_Simple_an.right.right.left.right.left.left
noncomputable abbrev noonmarkref26_Simple_a2 : An := noonmarkref26_Simple_an.right.right
noncomputable abbrev noonmarkref26_Simple_a3 : An := noonmarkref26_Simple_an.right.right.left.right.left
noncomputable abbrev noonmarkref26_Simple_a4 : An := noonmarkref26_Simple_an.right.right.left.right
noncomputable abbrev noonmarkref26_Simple_K0 (r2 k0 : St → noonmarkref26_Simple_R) : Ex → St → noonmarkref26_Simple_R := (kSeq r2 noonmarkref26_Simple_a3 (kBlk 0 (kSeq k0 noonmarkref26_Simple_a2 (kFin Tryd.prog noonmarkref26_Simple_rs Tryd.f8))))
noncomputable abbrev noonmarkref26_Simple_K1 (k0 : St → noonmarkref26_Simple_R) : Ex → St → noonmarkref26_Simple_R := (kSeq k0 noonmarkref26_Simple_a2 (kFin Tryd.prog noonmarkref26_Simple_rs Tryd.f8))
abbrev noonmarkref26_Simple_t0 := D_noonmarkref17_Spec × D_noonmarkref17_Spec
def noonmarkref26_Simple_m0 (z : noonmarkref26_Simple_t0) : St := ⟨(.junk :: .v ⟨(.ptr 0 0 T_noonmarkref17_Spec), ()⟩ :: .v ⟨(.ptr 1 0 T_noonmarkref17_Spec), ()⟩ :: jk 27 []), [some (.one ⟨T_noonmarkref17_Spec, z.1⟩), some (.one ⟨T_noonmarkref17_Spec, z.2⟩)]⟩
abbrev noonmarkref26_Simple_t1 := Int × D_noonmarkref17_Spec × D_noonmarkref17_Spec
def noonmarkref26_Simple_m1 (z : noonmarkref26_Simple_t1) : St := ⟨(.junk :: .v ⟨(.ptr 0 0 T_noonmarkref17_Spec), ()⟩ :: .v ⟨(.ptr 1 0 T_noonmarkref17_Spec), ()⟩ :: .v ⟨(.int .i64), z.1⟩ :: jk 26 []), [some (.one ⟨T_noonmarkref17_Spec, z.2.1⟩), some (.one ⟨T_noonmarkref17_Spec, z.2.2⟩)]⟩
abbrev noonmarkref26_Simple_t2 := Int × D_noonmarkref17_Spec × D_noonmarkref17_Spec
def noonmarkref26_Simple_m2 (z : noonmarkref26_Simple_t2) : St := ⟨(.junk :: .v ⟨(.ptr 0 0 T_noonmarkref17_Spec), ()⟩ :: .v ⟨(.ptr 1 0 T_noonmarkref17_Spec), ()⟩ :: .v ⟨(.int .i64), z.1⟩ :: jk 26 []), [some (.one ⟨T_noonmarkref17_Spec, z.2.1⟩), some (.one ⟨T_noonmarkref17_Spec, z.2.2⟩)]⟩
def noonmarkref26_Simple_p0 (_n : Nat) (z : noonmarkref26_Simple_t0) : noonmarkref26_Simple_R :=
  some ((z.1.1, (z.1.2.1, ((⟨#[]⟩ : ByteArray), ((0 : Int), ((false, ((0 : Int), ((0 : Int), ((0 : Int), ((0 : Int), ()))))), ((false, ((0 : Int), ((0 : Int), ((0 : Int), ((0 : Int), ()))))), ())))))), ())
def noonmarkref26_Simple_s0 (n : Nat) (z : noonmarkref26_Simple_t0) : noonmarkref26_Simple_R := noonmarkref26_Simple_p0 n z
theorem noonmarkref26_Simple_e0 (n : Nat) (rc : RC noonmarkref26_Simple_R) (z : noonmarkref26_Simple_t0) : codeR rc Tryd.prog noonmarkref26_Simple_sp n noonmarkref26_Simple_c0 noonmarkref26_Simple_a0 (noonmarkref26_Simple_m0 z) (kFin Tryd.prog noonmarkref26_Simple_rs Tryd.f8) = noonmarkref26_Simple_p0 n z := by kernel_rfl
theorem noonmarkref26_Simple_q0 (n : Nat) (z : noonmarkref26_Simple_t0) : codeK Tryd.prog noonmarkref26_Simple_sp n noonmarkref26_Simple_c0 noonmarkref26_Simple_a0 (noonmarkref26_Simple_m0 z) (kFin Tryd.prog noonmarkref26_Simple_rs Tryd.f8) = noonmarkref26_Simple_s0 n z := by
  rw [codeK_R, noonmarkref26_Simple_e0]
  rfl
def noonmarkref26_Simple_p2 (n : Nat) (k0 : noonmarkref26_Simple_t0 → noonmarkref26_Simple_R) (r2 : noonmarkref26_Simple_t2 → noonmarkref26_Simple_R) (z : noonmarkref26_Simple_t2) : noonmarkref26_Simple_R :=
  bif (decide (z.1 ≤ 400)) then
    ((noonmarkref26_start n (z.2.1, (z.1, ())))).bind fun v2 =>
    ((noonmarkref26_end n (z.2.1, (z.1, ())))).bind fun v3 =>
    bif (v2.1 != v3.1) then
      some (z.2.1, ())
    else
      r2 ((w64 (z.1 + 1)), z.2.1, z.2.2)
  else
    k0 (z.2.1, z.2.2)
def noonmarkref26_Simple_s2 (n : Nat) (k0 : noonmarkref26_Simple_t0 → noonmarkref26_Simple_R) (r2 : noonmarkref26_Simple_t2 → noonmarkref26_Simple_R) (z : noonmarkref26_Simple_t2) : noonmarkref26_Simple_R := noonmarkref26_Simple_p2 n k0 r2 z
theorem noonmarkref26_Simple_e2 (n : Nat) (k0 : St → noonmarkref26_Simple_R) (r2 : St → noonmarkref26_Simple_R) (rc : RC noonmarkref26_Simple_R) (z : noonmarkref26_Simple_t2) : codeR rc Tryd.prog noonmarkref26_Simple_sp n noonmarkref26_Simple_c1 noonmarkref26_Simple_a1 (noonmarkref26_Simple_m2 z) (noonmarkref26_Simple_K0 r2 k0) = noonmarkref26_Simple_p2 n (fun y => k0 (noonmarkref26_Simple_m0 y)) (fun y => r2 (noonmarkref26_Simple_m2 y)) z := by kernel_rfl
theorem noonmarkref26_Simple_q2 (n : Nat) (k0 : St → noonmarkref26_Simple_R) (r2 : St → noonmarkref26_Simple_R) (z : noonmarkref26_Simple_t2) : codeK Tryd.prog noonmarkref26_Simple_sp n noonmarkref26_Simple_c1 noonmarkref26_Simple_a1 (noonmarkref26_Simple_m2 z) (noonmarkref26_Simple_K0 r2 k0) = noonmarkref26_Simple_s2 n (fun y => k0 (noonmarkref26_Simple_m0 y)) (fun y => r2 (noonmarkref26_Simple_m2 y)) z := by
  rw [codeK_R, noonmarkref26_Simple_e2]
  rfl
def noonmarkref26_Simple_s1 (n : Nat) (k0 : noonmarkref26_Simple_t0 → noonmarkref26_Simple_R) (z : noonmarkref26_Simple_t1) : noonmarkref26_Simple_R :=
  rounds (fun r2 x' => noonmarkref26_Simple_s2 n k0 r2 x') n (z.1, z.2.1, z.2.2)
theorem noonmarkref26_Simple_q1 (n : Nat) (k0 : St → noonmarkref26_Simple_R) (z : noonmarkref26_Simple_t1) : codeK Tryd.prog noonmarkref26_Simple_sp n noonmarkref26_Simple_c2 noonmarkref26_Simple_a4 (noonmarkref26_Simple_m1 z) (noonmarkref26_Simple_K1 k0) = noonmarkref26_Simple_s1 n (fun y => k0 (noonmarkref26_Simple_m0 y)) z :=
  Eq.trans (b := rounds (fun r2 st => codeK Tryd.prog noonmarkref26_Simple_sp n noonmarkref26_Simple_c1 noonmarkref26_Simple_a1 st (noonmarkref26_Simple_K0 r2 k0)) n (noonmarkref26_Simple_m2 (z.1, z.2.1, z.2.2))) (by kernel_rfl) (rounds_mk noonmarkref26_Simple_m2 (fun r2 x' => by
    have := (noonmarkref26_Simple_q2 n k0 r2 x')
    exact this) n _)
def noonmarkref26_Simple_px (n : Nat) (k0 : noonmarkref26_Simple_t0 → noonmarkref26_Simple_R) (k1 : noonmarkref26_Simple_t1 → noonmarkref26_Simple_R) (x : D_posix_spec) : noonmarkref26_Simple_R :=
  ((noonmarkref17_Right n (x.1, ()))).bind fun v1 =>
  bif (!v1.1) then
    some (x.1, ())
  else
    bif (x.1.2.2.1.toList == (⟨#[]⟩ : ByteArray).toList) then
      some (x.1, ())
    else
      k1 ((1 : Int), x.1, ((⟨#[]⟩ : ByteArray), ((0 : Int), ((⟨#[]⟩ : ByteArray), ((0 : Int), ((false, ((0 : Int), ((0 : Int), ((0 : Int), ((0 : Int), ()))))), ((false, ((0 : Int), ((0 : Int), ((0 : Int), ((0 : Int), ()))))), ())))))))
def noonmarkref26_Simple (n : Nat) (x : D_posix_spec) : noonmarkref26_Simple_R := noonmarkref26_Simple_px n (noonmarkref26_Simple_s0 n) (noonmarkref26_Simple_s1 n (noonmarkref26_Simple_s0 n)) x
theorem noonmarkref26_Simple_ex (n : Nat) (rc : RC noonmarkref26_Simple_R) (x : D_posix_spec) : codeR rc Tryd.prog noonmarkref26_Simple_sp n (bodyOf Tryd.f8) noonmarkref26_Simple_an (start noonmarkref26_Simple_ps x (Func.ntmps Tryd.f8)) (kFin Tryd.prog noonmarkref26_Simple_rs Tryd.f8) = noonmarkref26_Simple_px n (fun y => rc noonmarkref26_Simple_c0 noonmarkref26_Simple_a0 (noonmarkref26_Simple_m0 y) (kFin Tryd.prog noonmarkref26_Simple_rs Tryd.f8)) (fun y => rc noonmarkref26_Simple_c2 noonmarkref26_Simple_a4 (noonmarkref26_Simple_m1 y) (noonmarkref26_Simple_K1 (fun st => rc noonmarkref26_Simple_c0 noonmarkref26_Simple_a0 st (kFin Tryd.prog noonmarkref26_Simple_rs Tryd.f8)))) x := by kernel_rfl
theorem noonmarkref26_Simple_qx (n : Nat) (x : D_posix_spec) : codeK Tryd.prog noonmarkref26_Simple_sp n (bodyOf Tryd.f8) noonmarkref26_Simple_an (start noonmarkref26_Simple_ps x (Func.ntmps Tryd.f8)) (kFin Tryd.prog noonmarkref26_Simple_rs Tryd.f8) = noonmarkref26_Simple n x := by
  have h0 : (fun y => codeK Tryd.prog noonmarkref26_Simple_sp n noonmarkref26_Simple_c0 noonmarkref26_Simple_a0 (noonmarkref26_Simple_m0 y) (kFin Tryd.prog noonmarkref26_Simple_rs Tryd.f8)) = (noonmarkref26_Simple_s0 n) := funext fun y => by
    have := noonmarkref26_Simple_q0 n  y
    exact this
  have h1 : (fun y => codeK Tryd.prog noonmarkref26_Simple_sp n noonmarkref26_Simple_c2 noonmarkref26_Simple_a4 (noonmarkref26_Simple_m1 y) (noonmarkref26_Simple_K1 (fun st => codeK Tryd.prog noonmarkref26_Simple_sp n noonmarkref26_Simple_c0 noonmarkref26_Simple_a0 st (kFin Tryd.prog noonmarkref26_Simple_rs Tryd.f8)))) = (noonmarkref26_Simple_s1 n (noonmarkref26_Simple_s0 n)) := funext fun y => by
    have := noonmarkref26_Simple_q1 n (fun st => codeK Tryd.prog noonmarkref26_Simple_sp n noonmarkref26_Simple_c0 noonmarkref26_Simple_a0 st (kFin Tryd.prog noonmarkref26_Simple_rs Tryd.f8)) y
    rw [h0] at this; exact this
  rw [codeK_R, noonmarkref26_Simple_ex]
  rw [h0]
  rw [h1]
  rfl
def noonmarkref26_Simple_spec : Sp := ⟨noonmarkref26_Simple_ps, noonmarkref26_Simple_rs, noonmarkref26_Simple⟩
theorem noonmarkref26_Simple_ok : SoundX Tryd.prog CX 8 (.f noonmarkref26_Simple_spec) := sound_of (look_cons noonmarkref17_Right_ok (look_cons noonmarkref26_start_ok (look_cons noonmarkref26_end_ok look_nil))) Tryd.func8 (by kernel_rfl) rfl noonmarkref26_Simple_an noonmarkref26_Simple_spec rfl rfl noonmarkref26_Simple_qx

/-! ### noonmark/posix.Equal -/
abbrev posix_Equal_ps : Ty := (.pair T_noonmarkref17_Spec T_posix_spec)
abbrev posix_Equal_rs : Ty := (.pair .bool .unit)
def posix_Equal_sp : Specs := look [(6, .f posix_Simple_spec)]
def posix_Equal_an : An := .o
abbrev posix_Equal_R := Option (Bool × Unit)

def posix_Equal_px (n : Nat) (x : (D_noonmarkref17_Spec × D_posix_spec)) : posix_Equal_R :=
  ((posix_Simple n (x.1, ()))).bind fun v1 =>
  ((posix_Simple n (x.2.1, ()))).bind fun v2 =>
  some ((eqD T_noonmarkref17_Spec v1.1 v2.1), ())
def posix_Equal (n : Nat) (x : (D_noonmarkref17_Spec × D_posix_spec)) : posix_Equal_R := posix_Equal_px n x
theorem posix_Equal_ex (n : Nat) (rc : RC posix_Equal_R) (x : (D_noonmarkref17_Spec × D_posix_spec)) : codeR rc Tryd.prog posix_Equal_sp n (bodyOf Tryd.f9) posix_Equal_an (start posix_Equal_ps x (Func.ntmps Tryd.f9)) (kFin Tryd.prog posix_Equal_rs Tryd.f9) = posix_Equal_px n x := by kernel_rfl
theorem posix_Equal_qx (n : Nat) (x : (D_noonmarkref17_Spec × D_posix_spec)) : codeK Tryd.prog posix_Equal_sp n (bodyOf Tryd.f9) posix_Equal_an (start posix_Equal_ps x (Func.ntmps Tryd.f9)) (kFin Tryd.prog posix_Equal_rs Tryd.f9) = posix_Equal n x := by
  rw [codeK_R, posix_Equal_ex]
  rfl
def posix_Equal_spec : Sp := ⟨posix_Equal_ps, posix_Equal_rs, posix_Equal⟩
theorem posix_Equal_ok : SoundX Tryd.prog CX 9 (.f posix_Equal_spec) := sound_of (look_cons posix_Simple_ok look_nil) Tryd.func9 (by kernel_rfl) rfl posix_Equal_an posix_Equal_spec rfl rfl posix_Equal_qx

/-! ### noonmark/noonmarkref26.Equal -/
abbrev noonmarkref26_Equal_ps : Ty := (.pair T_noonmarkref17_Spec T_posix_spec)
abbrev noonmarkref26_Equal_rs : Ty := (.pair .bool .unit)
def noonmarkref26_Equal_sp : Specs := look [(8, .f noonmarkref26_Simple_spec)]
def noonmarkref26_Equal_an : An := .o
abbrev noonmarkref26_Equal_R := Option (Bool × Unit)

def noonmarkref26_Equal_px (n : Nat) (x : (D_noonmarkref17_Spec × D_posix_spec)) : noonmarkref26_Equal_R :=
  ((noonmarkref26_Simple n (x.1, ()))).bind fun v1 =>
  ((noonmarkref26_Simple n (x.2.1, ()))).bind fun v2 =>
  some ((eqD T_noonmarkref17_Spec v1.1 v2.1), ())
def noonmarkref26_Equal (n : Nat) (x : (D_noonmarkref17_Spec × D_posix_spec)) : noonmarkref26_Equal_R := noonmarkref26_Equal_px n x
theorem noonmarkref26_Equal_ex (n : Nat) (rc : RC noonmarkref26_Equal_R) (x : (D_noonmarkref17_Spec × D_posix_spec)) : codeR rc Tryd.prog noonmarkref26_Equal_sp n (bodyOf Tryd.f10) noonmarkref26_Equal_an (start noonmarkref26_Equal_ps x (Func.ntmps Tryd.f10)) (kFin Tryd.prog noonmarkref26_Equal_rs Tryd.f10) = noonmarkref26_Equal_px n x := by kernel_rfl
theorem noonmarkref26_Equal_qx (n : Nat) (x : (D_noonmarkref17_Spec × D_posix_spec)) : codeK Tryd.prog noonmarkref26_Equal_sp n (bodyOf Tryd.f10) noonmarkref26_Equal_an (start noonmarkref26_Equal_ps x (Func.ntmps Tryd.f10)) (kFin Tryd.prog noonmarkref26_Equal_rs Tryd.f10) = noonmarkref26_Equal n x := by
  rw [codeK_R, noonmarkref26_Equal_ex]
  rfl
def noonmarkref26_Equal_spec : Sp := ⟨noonmarkref26_Equal_ps, noonmarkref26_Equal_rs, noonmarkref26_Equal⟩
theorem noonmarkref26_Equal_ok : SoundX Tryd.prog CX 10 (.f noonmarkref26_Equal_spec) := sound_of (look_cons noonmarkref26_Simple_ok look_nil) Tryd.func10 (by kernel_rfl) rfl noonmarkref26_Equal_an noonmarkref26_Equal_spec rfl rfl noonmarkref26_Equal_qx

/-! ### noonmark/noonmarklaw26.PosixSimple -/
abbrev noonmarklaw26_PosixSimple_ps : Ty := (.pair T_noonmarkref17_Spec T_posix_spec)
abbrev noonmarklaw26_PosixSimple_rs : Ty := (.pair .bool .unit)
def noonmarklaw26_PosixSimple_sp : Specs := look [(10, .f noonmarkref26_Equal_spec), (4, .f noonmarklaw26_light_spec), (5, .f aliveS), (6, .f posix_Simple_spec), (7, .f noonmarklaw17_Own_spec), (8, .f noonmarkref26_Simple_spec), (9, .f posix_Equal_spec)]
def noonmarklaw26_PosixSimple_an : An := .o
abbrev noonmarklaw26_PosixSimple_R := Option (Bool × Unit)
noncomputable abbrev noonmarklaw26_PosixSimple_K0 : Ex → St → noonmarklaw26_PosixSimple_R := (kFin Tryd.prog noonmarklaw26_PosixSimple_rs Tryd.f3)
def noonmarklaw26_PosixSimple_px (n : Nat) (x : (D_noonmarkref17_Spec × D_posix_spec)) : noonmarklaw26_PosixSimple_R :=
  ((noonmarklaw26_light n (x.1, ()))).bind fun v1 =>
  bif (!v1.1) then
    ((aliveF n ())).bind fun v2 =>
    some (v2.1, ())
  else
    ((noonmarklaw26_light n (x.2.1, ()))).bind fun v3 =>
    bif (!v3.1) then
      ((aliveF n ())).bind fun v4 =>
      some (v4.1, ())
    else
      ((noonmarklaw17_Own n (x.1, ()))).bind fun v5 =>
      ((posix_Simple n (v5.1, ()))).bind fun v6 =>
      ((noonmarkref26_Simple n (x.1, ()))).bind fun v7 =>
      ((noonmarklaw17_Own n (v7.1, ()))).bind fun v8 =>
      bif (eqD T_noonmarkref17_Spec v6.1 v8.1) then
        ((noonmarklaw17_Own n (x.1, ()))).bind fun v9 =>
        ((noonmarklaw17_Own n (x.2.1, ()))).bind fun v10 =>
        ((posix_Equal n (v9.1, (v10.1, ())))).bind fun v11 =>
        ((noonmarkref26_Equal n (x.1, (x.2.1, ())))).bind fun v12 =>
        bif (v11.1 == v12.1) then
          ((aliveF n ())).bind fun v13 =>
          some (v13.1, ())
        else
          some (false, ())
      else
        some (false, ())
def noonmarklaw26_PosixSimple (n : Nat) (x : (D_noonmarkref17_Spec × D_posix_spec)) : noonmarklaw26_PosixSimple_R := noonmarklaw26_PosixSimple_px n x
theorem noonmarklaw26_PosixSimple_ex (n : Nat) (rc : RC noonmarklaw26_PosixSimple_R) (x : (D_noonmarkref17_Spec × D_posix_spec)) : codeR rc Tryd.prog noonmarklaw26_PosixSimple_sp n (bodyOf Tryd.f3) noonmarklaw26_PosixSimple_an (start noonmarklaw26_PosixSimple_ps x (Func.ntmps Tryd.f3)) noonmarklaw26_PosixSimple_K0 = noonmarklaw26_PosixSimple_px n x := by kernel_rfl
theorem noonmarklaw26_PosixSimple_qx (n : Nat) (x : (D_noonmarkref17_Spec × D_posix_spec)) : codeK Tryd.prog noonmarklaw26_PosixSimple_sp n (bodyOf Tryd.f3) noonmarklaw26_PosixSimple_an (start noonmarklaw26_PosixSimple_ps x (Func.ntmps Tryd.f3)) noonmarklaw26_PosixSimple_K0 = noonmarklaw26_PosixSimple n x := by
  rw [codeK_R, noonmarklaw26_PosixSimple_ex]
  rfl
def noonmarklaw26_PosixSimple_spec : Sp := ⟨noonmarklaw26_PosixSimple_ps, noonmarklaw26_PosixSimple_rs, noonmarklaw26_PosixSimple⟩
theorem noonmarklaw26_PosixSimple_ok : SoundX Tryd.prog CX 3 (.f noonmarklaw26_PosixSimple_spec) := sound_of (look_cons noonmarkref26_Equal_ok (look_cons noonmarklaw26_light_ok (look_cons alive_okX (look_cons posix_Simple_ok (look_cons noonmarklaw17_Own_ok (look_cons noonmarkref26_Simple_ok (look_cons posix_Equal_ok look_nil))))))) Tryd.func3 (by kernel_rfl) rfl noonmarklaw26_PosixSimple_an noonmarklaw26_PosixSimple_spec rfl rfl noonmarklaw26_PosixSimple_qx
end Go.Proofs.YtedenojeljjnaaaDoorPi
