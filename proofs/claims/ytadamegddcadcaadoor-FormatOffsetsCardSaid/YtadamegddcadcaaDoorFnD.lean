import Derived.Test.YtadamegddcadcaaDoorFnC
import Derived.Test.YtadamegddcadcaaDoorDgs
set_option linter.unusedVariables false
set_option maxRecDepth 100000
set_option maxHeartbeats 4000000
set_option linter.unusedVariables false
namespace Go.Proofs.YtadamegddcadcaaDoorPi
open Go Go.Proofs
abbrev T_api_Local : Ty := (.pair (.int .i64) (.pair .bool (.pair .str .unit)))
abbrev D_api_Local := (Int × (Bool × (ByteArray × Unit)))
/-! ### noonmark/format.Plain -/
abbrev format_Plain_ps : Ty := (.pair .str .unit)
abbrev format_Plain_rs : Ty := (.pair .bool .unit)
def format_Plain_sp : Specs := look []
def format_Plain_an : An := (.s .o (.k [] [0] 0 (.k [] [0,7,8,9] 0 .o (.b (.l [] [0,7,8,9] 0 (.s .o (.s .o (.k [] [0,7,8,9] 0 (.b (.s .o (.s .o (.b (.k [] [0,7,8,9,15] 0 (.k [] [0,4,7,8,9,15] 0 .o .o) .o))))) .o)))))) .o))
abbrev format_Plain_t0 := ByteArray
def format_Plain_m0 (z : format_Plain_t0) : St := ⟨[.v ⟨.str, z⟩, .junk, .junk, .junk, .junk, .junk, .junk, .junk, .junk, .junk, .junk, .junk, .junk, .junk, .junk, .junk, .junk, .junk, .junk, .junk, .junk, .junk, .junk, .junk, .junk, .junk, .junk, .junk, .junk, .junk, .junk, .junk, .junk, .junk, .junk, .junk, .junk, .junk, .junk, .junk, .junk, .junk, .junk, .junk, .junk], []⟩
abbrev format_Plain_t1 := ByteArray × (List Int) × Int × Int
def format_Plain_m1 (z : format_Plain_t1) : St := ⟨[.v ⟨.str, z.1⟩, .junk, .junk, .junk, .junk, .junk, .junk, .v ⟨(.list (.int .u8)), z.2.1⟩, .v ⟨(.int .i64), z.2.2.1⟩, .v ⟨(.int .i64), z.2.2.2⟩, .junk, .junk, .junk, .junk, .junk, .junk, .junk, .junk, .junk, .junk, .junk, .junk, .junk, .junk, .junk, .junk, .junk, .junk, .junk, .junk, .junk, .junk, .junk, .junk, .junk, .junk, .junk, .junk, .junk, .junk, .junk, .junk, .junk, .junk, .junk], []⟩
abbrev format_Plain_t2 := ByteArray × (List Int) × Int × Int
def format_Plain_m2 (z : format_Plain_t2) : St := ⟨[.v ⟨.str, z.1⟩, .junk, .junk, .junk, .junk, .junk, .junk, .v ⟨(.list (.int .u8)), z.2.1⟩, .v ⟨(.int .i64), z.2.2.1⟩, .v ⟨(.int .i64), z.2.2.2⟩, .junk, .junk, .junk, .junk, .junk, .junk, .junk, .junk, .junk, .junk, .junk, .junk, .junk, .junk, .junk, .junk, .junk, .junk, .junk, .junk, .junk, .junk, .junk, .junk, .junk, .junk, .junk, .junk, .junk, .junk, .junk, .junk, .junk, .junk, .junk], []⟩
abbrev format_Plain_t3 := ByteArray × (List Int) × Int × Int
def format_Plain_m3 (z : format_Plain_t3) : St := ⟨[.v ⟨.str, z.1⟩, .junk, .junk, .junk, .junk, .junk, .junk, .v ⟨(.list (.int .u8)), z.2.1⟩, .v ⟨(.int .i64), z.2.2.1⟩, .v ⟨(.int .i64), z.2.2.2⟩, .junk, .junk, .junk, .junk, .junk, .junk, .junk, .junk, .junk, .junk, .junk, .junk, .junk, .junk, .junk, .junk, .junk, .junk, .junk, .junk, .junk, .junk, .junk, .junk, .junk, .junk, .junk, .junk, .junk, .junk, .junk, .junk, .junk, .junk, .junk], []⟩
abbrev format_Plain_t4 := ByteArray × (List Int) × Int × Int × Bool
def format_Plain_m4 (z : format_Plain_t4) : St := ⟨[.v ⟨.str, z.1⟩, .junk, .junk, .junk, .junk, .junk, .junk, .v ⟨(.list (.int .u8)), z.2.1⟩, .v ⟨(.int .i64), z.2.2.1⟩, .v ⟨(.int .i64), z.2.2.2.1⟩, .junk, .junk, .junk, .junk, .junk, .v ⟨.bool, z.2.2.2.2⟩, .junk, .junk, .junk, .junk, .junk, .junk, .junk, .junk, .junk, .junk, .junk, .junk, .junk, .junk, .junk, .junk, .junk, .junk, .junk, .junk, .junk, .junk, .junk, .junk, .junk, .junk, .junk, .junk, .junk], []⟩
abbrev format_Plain_t5 := ByteArray × Int × (List Int) × Int × Int × Bool
def format_Plain_m5 (z : format_Plain_t5) : St := ⟨[.v ⟨.str, z.1⟩, .junk, .junk, .junk, .v ⟨(.int .u8), z.2.1⟩, .junk, .junk, .v ⟨(.list (.int .u8)), z.2.2.1⟩, .v ⟨(.int .i64), z.2.2.2.1⟩, .v ⟨(.int .i64), z.2.2.2.2.1⟩, .junk, .junk, .junk, .junk, .junk, .v ⟨.bool, z.2.2.2.2.2⟩, .junk, .junk, .junk, .junk, .junk, .junk, .junk, .junk, .junk, .junk, .junk, .junk, .junk, .junk, .junk, .junk, .junk, .junk, .junk, .junk, .junk, .junk, .junk, .junk, .junk, .junk, .junk, .junk, .junk], []⟩
def format_Plain_p0 (_n : Nat) (z : format_Plain_t0) : Option (Bool × Unit) :=
  bif (decide ((ByteArray.size z : Int) ≥ 3)) then
    some ((decide ((ByteArray.size z : Int) ≤ 6)), ())
  else
    some (false, ())
def format_Plain_s0 (n : Nat) (z : format_Plain_t0) : Option (Bool × Unit) := format_Plain_p0 n z
theorem format_Plain_e0 (n : Nat) (rc : Code → An → St → (Ex → St → Option (Bool × Unit)) → Option (Bool × Unit)) (z : format_Plain_t0) : codeR rc Tryd.prog format_Plain_sp n (cr (cr (bodyOf Tryd.f14))) format_Plain_an.right.right (format_Plain_m0 z) (kFin Tryd.prog format_Plain_rs Tryd.f14) = format_Plain_p0 n z := by kernel_rfl
theorem format_Plain_q0 (n : Nat) (z : format_Plain_t0) : codeK Tryd.prog format_Plain_sp n (cr (cr (bodyOf Tryd.f14))) format_Plain_an.right.right (format_Plain_m0 z) (kFin Tryd.prog format_Plain_rs Tryd.f14) = format_Plain_s0 n z := by
  rw [codeK_R, format_Plain_e0]
  rfl
def format_Plain_p3 (_n : Nat) (_k0 : format_Plain_t0 → Option (Bool × Unit)) (r2 : format_Plain_t2 → Option (Bool × Unit)) (z : format_Plain_t3) : Option (Bool × Unit) :=
  r2 (z.1, z.2.1, z.2.2.1, (w64 (z.2.2.2 + 1)))
def format_Plain_s3 (n : Nat) (k0 : format_Plain_t0 → Option (Bool × Unit)) (r2 : format_Plain_t2 → Option (Bool × Unit)) (z : format_Plain_t3) : Option (Bool × Unit) := format_Plain_p3 n k0 r2 z
theorem format_Plain_e3 (n : Nat) (k0 : St → Option (Bool × Unit)) (r2 : St → Option (Bool × Unit)) (rc : Code → An → St → (Ex → St → Option (Bool × Unit)) → Option (Bool × Unit)) (z : format_Plain_t3) : codeR rc Tryd.prog format_Plain_sp n (cr (cr (cr (cl (cl (cr (cl (cr (bodyOf Tryd.f14))))))))) format_Plain_an.right.left.right.left.left.right.right.right (format_Plain_m3 z) (kSeq r2 format_Plain_an.right.left.right.left (kBlk 0 (kSeq k0 format_Plain_an.right (kFin Tryd.prog format_Plain_rs Tryd.f14)))) = format_Plain_p3 n (fun y => k0 (format_Plain_m0 y)) (fun y => r2 (format_Plain_m2 y)) z := by kernel_rfl
theorem format_Plain_q3 (n : Nat) (k0 : St → Option (Bool × Unit)) (r2 : St → Option (Bool × Unit)) (z : format_Plain_t3) : codeK Tryd.prog format_Plain_sp n (cr (cr (cr (cl (cl (cr (cl (cr (bodyOf Tryd.f14))))))))) format_Plain_an.right.left.right.left.left.right.right.right (format_Plain_m3 z) (kSeq r2 format_Plain_an.right.left.right.left (kBlk 0 (kSeq k0 format_Plain_an.right (kFin Tryd.prog format_Plain_rs Tryd.f14)))) = format_Plain_s3 n (fun y => k0 (format_Plain_m0 y)) (fun y => r2 (format_Plain_m2 y)) z := by
  rw [codeK_R, format_Plain_e3]
  rfl
def format_Plain_p4 (_n : Nat) (_k0 : format_Plain_t0 → Option (Bool × Unit)) (_r2 : format_Plain_t2 → Option (Bool × Unit)) (k3 : format_Plain_t3 → Option (Bool × Unit)) (z : format_Plain_t4) : Option (Bool × Unit) :=
  bif z.2.2.2.2 then
    k3 (z.1, z.2.1, z.2.2.1, z.2.2.2.1)
  else
    some (false, ())
def format_Plain_s4 (n : Nat) (k0 : format_Plain_t0 → Option (Bool × Unit)) (r2 : format_Plain_t2 → Option (Bool × Unit)) (k3 : format_Plain_t3 → Option (Bool × Unit)) (z : format_Plain_t4) : Option (Bool × Unit) := format_Plain_p4 n k0 r2 k3 z
theorem format_Plain_e4 (n : Nat) (k0 : St → Option (Bool × Unit)) (r2 : St → Option (Bool × Unit)) (k3 : St → Option (Bool × Unit)) (rc : Code → An → St → (Ex → St → Option (Bool × Unit)) → Option (Bool × Unit)) (z : format_Plain_t4) : codeR rc Tryd.prog format_Plain_sp n (cr (cl (cr (cr (cl (cl (cr (cr (cl (cl (cr (cl (cr (bodyOf Tryd.f14)))))))))))))) format_Plain_an.right.left.right.left.left.right.right.left.left.right.right.left.right (format_Plain_m4 z) (kBlk 2 (kBlk 1 (kSeq k3 format_Plain_an.right.left.right.left.left.right.right (kSeq r2 format_Plain_an.right.left.right.left (kBlk 0 (kSeq k0 format_Plain_an.right (kFin Tryd.prog format_Plain_rs Tryd.f14))))))) = format_Plain_p4 n (fun y => k0 (format_Plain_m0 y)) (fun y => r2 (format_Plain_m2 y)) (fun y => k3 (format_Plain_m3 y)) z := by kernel_rfl
theorem format_Plain_q4 (n : Nat) (k0 : St → Option (Bool × Unit)) (r2 : St → Option (Bool × Unit)) (k3 : St → Option (Bool × Unit)) (z : format_Plain_t4) : codeK Tryd.prog format_Plain_sp n (cr (cl (cr (cr (cl (cl (cr (cr (cl (cl (cr (cl (cr (bodyOf Tryd.f14)))))))))))))) format_Plain_an.right.left.right.left.left.right.right.left.left.right.right.left.right (format_Plain_m4 z) (kBlk 2 (kBlk 1 (kSeq k3 format_Plain_an.right.left.right.left.left.right.right (kSeq r2 format_Plain_an.right.left.right.left (kBlk 0 (kSeq k0 format_Plain_an.right (kFin Tryd.prog format_Plain_rs Tryd.f14))))))) = format_Plain_s4 n (fun y => k0 (format_Plain_m0 y)) (fun y => r2 (format_Plain_m2 y)) (fun y => k3 (format_Plain_m3 y)) z := by
  rw [codeK_R, format_Plain_e4]
  rfl
def format_Plain_p5 (_n : Nat) (_k0 : format_Plain_t0 → Option (Bool × Unit)) (_r2 : format_Plain_t2 → Option (Bool × Unit)) (_k3 : format_Plain_t3 → Option (Bool × Unit)) (k4 : format_Plain_t4 → Option (Bool × Unit)) (z : format_Plain_t5) : Option (Bool × Unit) :=
  bif z.2.2.2.2.2 then
    k4 (z.1, z.2.2.1, z.2.2.2.1, z.2.2.2.2.1, true)
  else
    bif (decide (48 ≤ z.2.1)) then
      bif (decide (z.2.1 ≤ 57)) then
        k4 (z.1, z.2.2.1, z.2.2.2.1, z.2.2.2.2.1, true)
      else
        bif (z.2.1 == 43) then
          k4 (z.1, z.2.2.1, z.2.2.2.1, z.2.2.2.2.1, true)
        else
          k4 (z.1, z.2.2.1, z.2.2.2.1, z.2.2.2.2.1, (z.2.1 == 45))
    else
      bif (z.2.1 == 43) then
        k4 (z.1, z.2.2.1, z.2.2.2.1, z.2.2.2.2.1, true)
      else
        k4 (z.1, z.2.2.1, z.2.2.2.1, z.2.2.2.2.1, (z.2.1 == 45))
def format_Plain_s5 (n : Nat) (k0 : format_Plain_t0 → Option (Bool × Unit)) (r2 : format_Plain_t2 → Option (Bool × Unit)) (k3 : format_Plain_t3 → Option (Bool × Unit)) (k4 : format_Plain_t4 → Option (Bool × Unit)) (z : format_Plain_t5) : Option (Bool × Unit) := format_Plain_p5 n k0 r2 k3 k4 z
theorem format_Plain_e5 (n : Nat) (k0 : St → Option (Bool × Unit)) (r2 : St → Option (Bool × Unit)) (k3 : St → Option (Bool × Unit)) (k4 : St → Option (Bool × Unit)) (rc : Code → An → St → (Ex → St → Option (Bool × Unit)) → Option (Bool × Unit)) (z : format_Plain_t5) : codeR rc Tryd.prog format_Plain_sp n (cr (cl (cl (cr (cr (cl (cl (cr (cr (cl (cl (cr (cl (cr (bodyOf Tryd.f14))))))))))))))) format_Plain_an.right.left.right.left.left.right.right.left.left.right.right.left.left.right (format_Plain_m5 z) (kSeq k4 format_Plain_an.right.left.right.left.left.right.right.left.left.right.right.left (kBlk 2 (kBlk 1 (kSeq k3 format_Plain_an.right.left.right.left.left.right.right (kSeq r2 format_Plain_an.right.left.right.left (kBlk 0 (kSeq k0 format_Plain_an.right (kFin Tryd.prog format_Plain_rs Tryd.f14)))))))) = format_Plain_p5 n (fun y => k0 (format_Plain_m0 y)) (fun y => r2 (format_Plain_m2 y)) (fun y => k3 (format_Plain_m3 y)) (fun y => k4 (format_Plain_m4 y)) z := by kernel_rfl
theorem format_Plain_q5 (n : Nat) (k0 : St → Option (Bool × Unit)) (r2 : St → Option (Bool × Unit)) (k3 : St → Option (Bool × Unit)) (k4 : St → Option (Bool × Unit)) (z : format_Plain_t5) : codeK Tryd.prog format_Plain_sp n (cr (cl (cl (cr (cr (cl (cl (cr (cr (cl (cl (cr (cl (cr (bodyOf Tryd.f14))))))))))))))) format_Plain_an.right.left.right.left.left.right.right.left.left.right.right.left.left.right (format_Plain_m5 z) (kSeq k4 format_Plain_an.right.left.right.left.left.right.right.left.left.right.right.left (kBlk 2 (kBlk 1 (kSeq k3 format_Plain_an.right.left.right.left.left.right.right (kSeq r2 format_Plain_an.right.left.right.left (kBlk 0 (kSeq k0 format_Plain_an.right (kFin Tryd.prog format_Plain_rs Tryd.f14)))))))) = format_Plain_s5 n (fun y => k0 (format_Plain_m0 y)) (fun y => r2 (format_Plain_m2 y)) (fun y => k3 (format_Plain_m3 y)) (fun y => k4 (format_Plain_m4 y)) z := by
  rw [codeK_R, format_Plain_e5]
  rfl
def format_Plain_p2 (_n : Nat) (k0 : format_Plain_t0 → Option (Bool × Unit)) (_r2 : format_Plain_t2 → Option (Bool × Unit)) (k3 : format_Plain_t3 → Option (Bool × Unit)) (k4 : format_Plain_t4 → Option (Bool × Unit)) (k5 : format_Plain_t5 → Option (Bool × Unit)) (z : format_Plain_t2) : Option (Bool × Unit) :=
  bif (decide (z.2.2.2 < z.2.2.1)) then
    bif decide (0 ≤ z.2.2.2) then
      ((z.2.1[Int.toNat z.2.2.2]?)).bind fun e2 =>
      let t3 := w8 (((BitVec.ofInt (IntKind.bits .u8) e2) ||| (BitVec.ofInt (IntKind.bits .u8) (32 : Int))).toNat : Int)
      bif (decide (97 ≤ t3)) then
        bif (decide (t3 ≤ 122)) then
          k5 (z.1, e2, z.2.1, z.2.2.1, z.2.2.2, (decide (e2 < 128)))
        else
          k5 (z.1, e2, z.2.1, z.2.2.1, z.2.2.2, false)
      else
        k5 (z.1, e2, z.2.1, z.2.2.1, z.2.2.2, false)
    else none
  else
    k0 z.1
def format_Plain_s2 (n : Nat) (k0 : format_Plain_t0 → Option (Bool × Unit)) (r2 : format_Plain_t2 → Option (Bool × Unit)) (z : format_Plain_t2) : Option (Bool × Unit) := format_Plain_p2 n k0 r2 (format_Plain_s3 n k0 r2) (format_Plain_s4 n k0 r2 (format_Plain_s3 n k0 r2)) (format_Plain_s5 n k0 r2 (format_Plain_s3 n k0 r2) (format_Plain_s4 n k0 r2 (format_Plain_s3 n k0 r2))) z
theorem format_Plain_e2 (n : Nat) (k0 : St → Option (Bool × Unit)) (r2 : St → Option (Bool × Unit)) (rc : Code → An → St → (Ex → St → Option (Bool × Unit)) → Option (Bool × Unit)) (z : format_Plain_t2) : codeR rc Tryd.prog format_Plain_sp n (cl (cl (cr (cl (cr (bodyOf Tryd.f14)))))) format_Plain_an.right.left.right.left.left (format_Plain_m2 z) (kSeq r2 format_Plain_an.right.left.right.left (kBlk 0 (kSeq k0 format_Plain_an.right (kFin Tryd.prog format_Plain_rs Tryd.f14)))) = format_Plain_p2 n (fun y => k0 (format_Plain_m0 y)) (fun y => r2 (format_Plain_m2 y)) (fun y => rc (cr (cr (cr (cl (cl (cr (cl (cr (bodyOf Tryd.f14))))))))) format_Plain_an.right.left.right.left.left.right.right.right (format_Plain_m3 y) (kSeq r2 format_Plain_an.right.left.right.left (kBlk 0 (kSeq k0 format_Plain_an.right (kFin Tryd.prog format_Plain_rs Tryd.f14))))) (fun y => rc (cr (cl (cr (cr (cl (cl (cr (cr (cl (cl (cr (cl (cr (bodyOf Tryd.f14)))))))))))))) format_Plain_an.right.left.right.left.left.right.right.left.left.right.right.left.right (format_Plain_m4 y) (kBlk 2 (kBlk 1 (kSeq (fun st => rc (cr (cr (cr (cl (cl (cr (cl (cr (bodyOf Tryd.f14))))))))) format_Plain_an.right.left.right.left.left.right.right.right st (kSeq r2 format_Plain_an.right.left.right.left (kBlk 0 (kSeq k0 format_Plain_an.right (kFin Tryd.prog format_Plain_rs Tryd.f14))))) format_Plain_an.right.left.right.left.left.right.right (kSeq r2 format_Plain_an.right.left.right.left (kBlk 0 (kSeq k0 format_Plain_an.right (kFin Tryd.prog format_Plain_rs Tryd.f14)))))))) (fun y => rc (cr (cl (cl (cr (cr (cl (cl (cr (cr (cl (cl (cr (cl (cr (bodyOf Tryd.f14))))))))))))))) format_Plain_an.right.left.right.left.left.right.right.left.left.right.right.left.left.right (format_Plain_m5 y) (kSeq (fun st => rc (cr (cl (cr (cr (cl (cl (cr (cr (cl (cl (cr (cl (cr (bodyOf Tryd.f14)))))))))))))) format_Plain_an.right.left.right.left.left.right.right.left.left.right.right.left.right st (kBlk 2 (kBlk 1 (kSeq (fun st => rc (cr (cr (cr (cl (cl (cr (cl (cr (bodyOf Tryd.f14))))))))) format_Plain_an.right.left.right.left.left.right.right.right st (kSeq r2 format_Plain_an.right.left.right.left (kBlk 0 (kSeq k0 format_Plain_an.right (kFin Tryd.prog format_Plain_rs Tryd.f14))))) format_Plain_an.right.left.right.left.left.right.right (kSeq r2 format_Plain_an.right.left.right.left (kBlk 0 (kSeq k0 format_Plain_an.right (kFin Tryd.prog format_Plain_rs Tryd.f14)))))))) format_Plain_an.right.left.right.left.left.right.right.left.left.right.right.left (kBlk 2 (kBlk 1 (kSeq (fun st => rc (cr (cr (cr (cl (cl (cr (cl (cr (bodyOf Tryd.f14))))))))) format_Plain_an.right.left.right.left.left.right.right.right st (kSeq r2 format_Plain_an.right.left.right.left (kBlk 0 (kSeq k0 format_Plain_an.right (kFin Tryd.prog format_Plain_rs Tryd.f14))))) format_Plain_an.right.left.right.left.left.right.right (kSeq r2 format_Plain_an.right.left.right.left (kBlk 0 (kSeq k0 format_Plain_an.right (kFin Tryd.prog format_Plain_rs Tryd.f14))))))))) z := by kernel_rfl
theorem format_Plain_q2 (n : Nat) (k0 : St → Option (Bool × Unit)) (r2 : St → Option (Bool × Unit)) (z : format_Plain_t2) : codeK Tryd.prog format_Plain_sp n (cl (cl (cr (cl (cr (bodyOf Tryd.f14)))))) format_Plain_an.right.left.right.left.left (format_Plain_m2 z) (kSeq r2 format_Plain_an.right.left.right.left (kBlk 0 (kSeq k0 format_Plain_an.right (kFin Tryd.prog format_Plain_rs Tryd.f14)))) = format_Plain_s2 n (fun y => k0 (format_Plain_m0 y)) (fun y => r2 (format_Plain_m2 y)) z := by
  have h3 : (fun y => codeK Tryd.prog format_Plain_sp n (cr (cr (cr (cl (cl (cr (cl (cr (bodyOf Tryd.f14))))))))) format_Plain_an.right.left.right.left.left.right.right.right (format_Plain_m3 y) (kSeq r2 format_Plain_an.right.left.right.left (kBlk 0 (kSeq k0 format_Plain_an.right (kFin Tryd.prog format_Plain_rs Tryd.f14))))) = (format_Plain_s3 n (fun y => k0 (format_Plain_m0 y)) (fun y => r2 (format_Plain_m2 y))) := funext fun y => by
    have := format_Plain_q3 n k0 r2 y
    exact this
  have h4 : (fun y => codeK Tryd.prog format_Plain_sp n (cr (cl (cr (cr (cl (cl (cr (cr (cl (cl (cr (cl (cr (bodyOf Tryd.f14)))))))))))))) format_Plain_an.right.left.right.left.left.right.right.left.left.right.right.left.right (format_Plain_m4 y) (kBlk 2 (kBlk 1 (kSeq (fun st => codeK Tryd.prog format_Plain_sp n (cr (cr (cr (cl (cl (cr (cl (cr (bodyOf Tryd.f14))))))))) format_Plain_an.right.left.right.left.left.right.right.right st (kSeq r2 format_Plain_an.right.left.right.left (kBlk 0 (kSeq k0 format_Plain_an.right (kFin Tryd.prog format_Plain_rs Tryd.f14))))) format_Plain_an.right.left.right.left.left.right.right (kSeq r2 format_Plain_an.right.left.right.left (kBlk 0 (kSeq k0 format_Plain_an.right (kFin Tryd.prog format_Plain_rs Tryd.f14)))))))) = (format_Plain_s4 n (fun y => k0 (format_Plain_m0 y)) (fun y => r2 (format_Plain_m2 y)) (format_Plain_s3 n (fun y => k0 (format_Plain_m0 y)) (fun y => r2 (format_Plain_m2 y)))) := funext fun y => by
    have := format_Plain_q4 n k0 r2 (fun st => codeK Tryd.prog format_Plain_sp n (cr (cr (cr (cl (cl (cr (cl (cr (bodyOf Tryd.f14))))))))) format_Plain_an.right.left.right.left.left.right.right.right st (kSeq r2 format_Plain_an.right.left.right.left (kBlk 0 (kSeq k0 format_Plain_an.right (kFin Tryd.prog format_Plain_rs Tryd.f14))))) y
    rw [h3] at this; exact this
  have h5 : (fun y => codeK Tryd.prog format_Plain_sp n (cr (cl (cl (cr (cr (cl (cl (cr (cr (cl (cl (cr (cl (cr (bodyOf Tryd.f14))))))))))))))) format_Plain_an.right.left.right.left.left.right.right.left.left.right.right.left.left.right (format_Plain_m5 y) (kSeq (fun st => codeK Tryd.prog format_Plain_sp n (cr (cl (cr (cr (cl (cl (cr (cr (cl (cl (cr (cl (cr (bodyOf Tryd.f14)))))))))))))) format_Plain_an.right.left.right.left.left.right.right.left.left.right.right.left.right st (kBlk 2 (kBlk 1 (kSeq (fun st => codeK Tryd.prog format_Plain_sp n (cr (cr (cr (cl (cl (cr (cl (cr (bodyOf Tryd.f14))))))))) format_Plain_an.right.left.right.left.left.right.right.right st (kSeq r2 format_Plain_an.right.left.right.left (kBlk 0 (kSeq k0 format_Plain_an.right (kFin Tryd.prog format_Plain_rs Tryd.f14))))) format_Plain_an.right.left.right.left.left.right.right (kSeq r2 format_Plain_an.right.left.right.left (kBlk 0 (kSeq k0 format_Plain_an.right (kFin Tryd.prog format_Plain_rs Tryd.f14)))))))) format_Plain_an.right.left.right.left.left.right.right.left.left.right.right.left (kBlk 2 (kBlk 1 (kSeq (fun st => codeK Tryd.prog format_Plain_sp n (cr (cr (cr (cl (cl (cr (cl (cr (bodyOf Tryd.f14))))))))) format_Plain_an.right.left.right.left.left.right.right.right st (kSeq r2 format_Plain_an.right.left.right.left (kBlk 0 (kSeq k0 format_Plain_an.right (kFin Tryd.prog format_Plain_rs Tryd.f14))))) format_Plain_an.right.left.right.left.left.right.right (kSeq r2 format_Plain_an.right.left.right.left (kBlk 0 (kSeq k0 format_Plain_an.right (kFin Tryd.prog format_Plain_rs Tryd.f14))))))))) = (format_Plain_s5 n (fun y => k0 (format_Plain_m0 y)) (fun y => r2 (format_Plain_m2 y)) (format_Plain_s3 n (fun y => k0 (format_Plain_m0 y)) (fun y => r2 (format_Plain_m2 y))) (format_Plain_s4 n (fun y => k0 (format_Plain_m0 y)) (fun y => r2 (format_Plain_m2 y)) (format_Plain_s3 n (fun y => k0 (format_Plain_m0 y)) (fun y => r2 (format_Plain_m2 y))))) := funext fun y => by
    have := format_Plain_q5 n k0 r2 (fun st => codeK Tryd.prog format_Plain_sp n (cr (cr (cr (cl (cl (cr (cl (cr (bodyOf Tryd.f14))))))))) format_Plain_an.right.left.right.left.left.right.right.right st (kSeq r2 format_Plain_an.right.left.right.left (kBlk 0 (kSeq k0 format_Plain_an.right (kFin Tryd.prog format_Plain_rs Tryd.f14))))) (fun st => codeK Tryd.prog format_Plain_sp n (cr (cl (cr (cr (cl (cl (cr (cr (cl (cl (cr (cl (cr (bodyOf Tryd.f14)))))))))))))) format_Plain_an.right.left.right.left.left.right.right.left.left.right.right.left.right st (kBlk 2 (kBlk 1 (kSeq (fun st => codeK Tryd.prog format_Plain_sp n (cr (cr (cr (cl (cl (cr (cl (cr (bodyOf Tryd.f14))))))))) format_Plain_an.right.left.right.left.left.right.right.right st (kSeq r2 format_Plain_an.right.left.right.left (kBlk 0 (kSeq k0 format_Plain_an.right (kFin Tryd.prog format_Plain_rs Tryd.f14))))) format_Plain_an.right.left.right.left.left.right.right (kSeq r2 format_Plain_an.right.left.right.left (kBlk 0 (kSeq k0 format_Plain_an.right (kFin Tryd.prog format_Plain_rs Tryd.f14)))))))) y
    rw [h3] at this; rw [h4] at this; exact this
  rw [codeK_R, format_Plain_e2]
  rw [h3]
  rw [h4]
  rw [h5]
  rfl
def format_Plain_s1 (n : Nat) (k0 : format_Plain_t0 → Option (Bool × Unit)) (z : format_Plain_t1) : Option (Bool × Unit) :=
  rounds (fun r2 x' => format_Plain_s2 n k0 r2 x') n (z.1, z.2.1, z.2.2.1, z.2.2.2)
theorem format_Plain_q1 (n : Nat) (k0 : St → Option (Bool × Unit)) (z : format_Plain_t1) : codeK Tryd.prog format_Plain_sp n (cr (cl (cr (bodyOf Tryd.f14)))) format_Plain_an.right.left.right (format_Plain_m1 z) (kSeq k0 format_Plain_an.right (kFin Tryd.prog format_Plain_rs Tryd.f14)) = format_Plain_s1 n (fun y => k0 (format_Plain_m0 y)) z :=
  Eq.trans (b := rounds (fun r2 st => codeK Tryd.prog format_Plain_sp n (cl (cl (cr (cl (cr (bodyOf Tryd.f14)))))) format_Plain_an.right.left.right.left.left st (kSeq r2 format_Plain_an.right.left.right.left (kBlk 0 (kSeq k0 format_Plain_an.right (kFin Tryd.prog format_Plain_rs Tryd.f14))))) n (format_Plain_m2 (z.1, z.2.1, z.2.2.1, z.2.2.2))) (by kernel_rfl) (rounds_mk format_Plain_m2 (fun r2 x' => by
    have := (format_Plain_q2 n k0 r2 x')
    exact this) n _)
def format_Plain_px (_n : Nat) (k0 : format_Plain_t0 → Option (Bool × Unit)) (k1 : format_Plain_t1 → Option (Bool × Unit)) (x : (ByteArray × Unit)) : Option (Bool × Unit) :=
  let t1 := bytesOf x.1
  k1 (x.1, t1, (List.length t1 : Int), (0 : Int))
def format_Plain (n : Nat) (x : (ByteArray × Unit)) : Option (Bool × Unit) := format_Plain_px n (format_Plain_s0 n) (format_Plain_s1 n (format_Plain_s0 n)) x
theorem format_Plain_ex (n : Nat) (rc : Code → An → St → (Ex → St → Option (Bool × Unit)) → Option (Bool × Unit)) (x : (ByteArray × Unit)) : codeR rc Tryd.prog format_Plain_sp n (bodyOf Tryd.f14) format_Plain_an (start format_Plain_ps x (Func.ntmps Tryd.f14)) (kFin Tryd.prog format_Plain_rs Tryd.f14) = format_Plain_px n (fun y => rc (cr (cr (bodyOf Tryd.f14))) format_Plain_an.right.right (format_Plain_m0 y) (kFin Tryd.prog format_Plain_rs Tryd.f14)) (fun y => rc (cr (cl (cr (bodyOf Tryd.f14)))) format_Plain_an.right.left.right (format_Plain_m1 y) (kSeq (fun st => rc (cr (cr (bodyOf Tryd.f14))) format_Plain_an.right.right st (kFin Tryd.prog format_Plain_rs Tryd.f14)) format_Plain_an.right (kFin Tryd.prog format_Plain_rs Tryd.f14))) x := by kernel_rfl
theorem format_Plain_qx (n : Nat) (x : (ByteArray × Unit)) : codeK Tryd.prog format_Plain_sp n (bodyOf Tryd.f14) format_Plain_an (start format_Plain_ps x (Func.ntmps Tryd.f14)) (kFin Tryd.prog format_Plain_rs Tryd.f14) = format_Plain n x := by
  have h0 : (fun y => codeK Tryd.prog format_Plain_sp n (cr (cr (bodyOf Tryd.f14))) format_Plain_an.right.right (format_Plain_m0 y) (kFin Tryd.prog format_Plain_rs Tryd.f14)) = (format_Plain_s0 n) := funext fun y => by
    have := format_Plain_q0 n  y
    exact this
  have h1 : (fun y => codeK Tryd.prog format_Plain_sp n (cr (cl (cr (bodyOf Tryd.f14)))) format_Plain_an.right.left.right (format_Plain_m1 y) (kSeq (fun st => codeK Tryd.prog format_Plain_sp n (cr (cr (bodyOf Tryd.f14))) format_Plain_an.right.right st (kFin Tryd.prog format_Plain_rs Tryd.f14)) format_Plain_an.right (kFin Tryd.prog format_Plain_rs Tryd.f14))) = (format_Plain_s1 n (format_Plain_s0 n)) := funext fun y => by
    have := format_Plain_q1 n (fun st => codeK Tryd.prog format_Plain_sp n (cr (cr (bodyOf Tryd.f14))) format_Plain_an.right.right st (kFin Tryd.prog format_Plain_rs Tryd.f14)) y
    rw [h0] at this; exact this
  rw [codeK_R, format_Plain_ex]
  rw [h0]
  rw [h1]
  rfl
def format_Plain_spec : Sp := ⟨format_Plain_ps, format_Plain_rs, format_Plain⟩
theorem format_Plain_ok : SoundX Tryd.prog CG 14 (.f format_Plain_spec) := sound_of look_nil Tryd.func14 (by kernel_rfl) rfl format_Plain_an format_Plain_spec rfl rfl format_Plain_qx

/-! ### noonmark/format.Abbr -/
abbrev format_Abbr_ps : Ty := (.pair .str (.pair .str (.pair (.int .i64) (.pair .bool .unit))))
abbrev format_Abbr_rs : Ty := (.pair .str (.pair (.int .i64) .unit))
def format_Abbr_sp : Specs := look [(14, .f format_Plain_spec), (15, .f cutS), (16, .f containsS), (17, .f replaceS), (18, .f digitsS)]
def format_Abbr_an : An := (.s .o (.s .o (.s .o (.s .o (.k [] [13] 0 .o .o)))))
abbrev format_Abbr_t0 := ByteArray
def format_Abbr_m0 (z : format_Abbr_t0) : St := ⟨[.junk, .junk, .junk, .junk, .junk, .junk, .junk, .junk, .junk, .junk, .junk, .junk, .junk, .v ⟨.str, z⟩, .junk, .junk, .junk, .junk, .junk, .junk, .junk, .junk, .junk, .junk, .junk, .junk, .junk, .junk, .junk, .junk, .junk, .junk, .junk, .junk, .junk, .junk, .junk, .junk, .junk, .junk, .junk, .junk, .junk, .junk, .junk, .junk, .junk, .junk, .junk, .junk, .junk, .junk, .junk], []⟩
def format_Abbr_p0 (n : Nat) (z : format_Abbr_t0) : Option (ByteArray × (Int × Unit)) :=
  ((format_Plain n (z, ()))).bind fun v7 =>
  bif (!v7.1) then
    some ((⟨#[]⟩ : ByteArray), ((15 : Int), ()))
  else
    some (z, ((0 : Int), ()))
def format_Abbr_s0 (n : Nat) (z : format_Abbr_t0) : Option (ByteArray × (Int × Unit)) := format_Abbr_p0 n z
theorem format_Abbr_e0 (n : Nat) (rc : Code → An → St → (Ex → St → Option (ByteArray × (Int × Unit))) → Option (ByteArray × (Int × Unit))) (z : format_Abbr_t0) : codeR rc Tryd.prog format_Abbr_sp n (cr (cr (cr (cr (cr (bodyOf Tryd.f6)))))) format_Abbr_an.right.right.right.right.right (format_Abbr_m0 z) (kFin Tryd.prog format_Abbr_rs Tryd.f6) = format_Abbr_p0 n z := by kernel_rfl
theorem format_Abbr_q0 (n : Nat) (z : format_Abbr_t0) : codeK Tryd.prog format_Abbr_sp n (cr (cr (cr (cr (cr (bodyOf Tryd.f6)))))) format_Abbr_an.right.right.right.right.right (format_Abbr_m0 z) (kFin Tryd.prog format_Abbr_rs Tryd.f6) = format_Abbr_s0 n z := by
  rw [codeK_R, format_Abbr_e0]
  rfl
def format_Abbr_px (n : Nat) (k0 : format_Abbr_t0 → Option (ByteArray × (Int × Unit))) (x : (ByteArray × (ByteArray × (Int × (Bool × Unit))))) : Option (ByteArray × (Int × Unit)) :=
  bif (decide (x.2.2.1 < (-180000))) then
    some ((⟨#[]⟩ : ByteArray), ((1 : Int), ()))
  else
    bif (decide (x.2.2.1 > 180000)) then
      some ((⟨#[]⟩ : ByteArray), ((1 : Int), ()))
    else
      ((cutF n (x.1, ((⟨#[47]⟩ : ByteArray), ())))).bind fun v1 =>
      ((containsF n (x.1, ((⟨#[37, 115]⟩ : ByteArray), ())))).bind fun v2 =>
      bif v2.1 then
        ((replaceF n (x.1, ((⟨#[37, 115]⟩ : ByteArray), (x.2.1, ((1 : Int), ())))))).bind fun v3 =>
        k0 v3.1
      else
        ((containsF n (x.1, ((⟨#[37, 122]⟩ : ByteArray), ())))).bind fun v4 =>
        bif v4.1 then
          ((digitsF n (x.2.2.1, ()))).bind fun v5 =>
          ((replaceF n (x.1, ((⟨#[37, 122]⟩ : ByteArray), (v5.1, ((1 : Int), ())))))).bind fun v6 =>
          k0 v6.1
        else
          bif v1.2.2.1 then
            bif x.2.2.2.1 then
              k0 v1.2.1
            else
              bif v1.2.2.1 then
                k0 v1.1
              else
                k0 x.1
          else
            bif v1.2.2.1 then
              k0 v1.1
            else
              k0 x.1
def format_Abbr (n : Nat) (x : (ByteArray × (ByteArray × (Int × (Bool × Unit))))) : Option (ByteArray × (Int × Unit)) := format_Abbr_px n (format_Abbr_s0 n) x
theorem format_Abbr_ex (n : Nat) (rc : Code → An → St → (Ex → St → Option (ByteArray × (Int × Unit))) → Option (ByteArray × (Int × Unit))) (x : (ByteArray × (ByteArray × (Int × (Bool × Unit))))) : codeR rc Tryd.prog format_Abbr_sp n (bodyOf Tryd.f6) format_Abbr_an (start format_Abbr_ps x (Func.ntmps Tryd.f6)) (kFin Tryd.prog format_Abbr_rs Tryd.f6) = format_Abbr_px n (fun y => rc (cr (cr (cr (cr (cr (bodyOf Tryd.f6)))))) format_Abbr_an.right.right.right.right.right (format_Abbr_m0 y) (kFin Tryd.prog format_Abbr_rs Tryd.f6)) x := by kernel_rfl
theorem format_Abbr_qx (n : Nat) (x : (ByteArray × (ByteArray × (Int × (Bool × Unit))))) : codeK Tryd.prog format_Abbr_sp n (bodyOf Tryd.f6) format_Abbr_an (start format_Abbr_ps x (Func.ntmps Tryd.f6)) (kFin Tryd.prog format_Abbr_rs Tryd.f6) = format_Abbr n x := by
  have h0 : (fun y => codeK Tryd.prog format_Abbr_sp n (cr (cr (cr (cr (cr (bodyOf Tryd.f6)))))) format_Abbr_an.right.right.right.right.right (format_Abbr_m0 y) (kFin Tryd.prog format_Abbr_rs Tryd.f6)) = (format_Abbr_s0 n) := funext fun y => by
    have := format_Abbr_q0 n  y
    exact this
  rw [codeK_R, format_Abbr_ex]
  rw [h0]
  rfl
def format_Abbr_spec : Sp := ⟨format_Abbr_ps, format_Abbr_rs, format_Abbr⟩
theorem format_Abbr_ok : SoundX Tryd.prog CG 6 (.f format_Abbr_spec) := sound_of (look_cons format_Plain_ok (look_cons cut_okX (look_cons contains_okX (look_cons replace_okX (look_cons digits_okX look_nil))))) Tryd.func6 (by kernel_rfl) rfl format_Abbr_an format_Abbr_spec rfl rfl format_Abbr_qx

/-! ### noonmark/noonmarklaw16.alive -/
abbrev noonmarklaw16_alive_ps : Ty := .unit
abbrev noonmarklaw16_alive_rs : Ty := (.pair .bool .unit)
def noonmarklaw16_alive_sp : Specs := look [(6, .f format_Abbr_spec)]
def noonmarklaw16_alive_an : An := .o
def noonmarklaw16_alive_px (n : Nat) (_x : Unit) : Option (Bool × Unit) :=
  ((format_Abbr n ((⟨#[67, 69, 37, 115, 84]⟩ : ByteArray), ((⟨#[83]⟩ : ByteArray), ((7200 : Int), (true, ())))))).bind fun v1 =>
  ((format_Abbr n ((⟨#[71, 77, 84, 47, 66, 83, 84]⟩ : ByteArray), ((⟨#[]⟩ : ByteArray), ((0 : Int), (false, ())))))).bind fun v2 =>
  ((format_Abbr n ((⟨#[37, 122]⟩ : ByteArray), ((⟨#[]⟩ : ByteArray), ((19800 : Int), (false, ())))))).bind fun v3 =>
  bif (v1.1.toList == (⟨#[67, 69, 83, 84]⟩ : ByteArray).toList) then
    bif (v2.1.toList == (⟨#[71, 77, 84]⟩ : ByteArray).toList) then
      bif (v3.1.toList == (⟨#[43, 48, 53, 51, 48]⟩ : ByteArray).toList) then
        bif (v1.2.1 == 0) then
          bif (v2.2.1 == 0) then
            some ((v3.2.1 == 0), ())
          else
            some (false, ())
        else
          some (false, ())
      else
        some (false, ())
    else
      some (false, ())
  else
    some (false, ())
def noonmarklaw16_alive (n : Nat) (x : Unit) : Option (Bool × Unit) := noonmarklaw16_alive_px n x
theorem noonmarklaw16_alive_ex (n : Nat) (rc : Code → An → St → (Ex → St → Option (Bool × Unit)) → Option (Bool × Unit)) (x : Unit) : codeR rc Tryd.prog noonmarklaw16_alive_sp n (bodyOf Tryd.f7) noonmarklaw16_alive_an (start noonmarklaw16_alive_ps x (Func.ntmps Tryd.f7)) (kFin Tryd.prog noonmarklaw16_alive_rs Tryd.f7) = noonmarklaw16_alive_px n x := by kernel_rfl
theorem noonmarklaw16_alive_qx (n : Nat) (x : Unit) : codeK Tryd.prog noonmarklaw16_alive_sp n (bodyOf Tryd.f7) noonmarklaw16_alive_an (start noonmarklaw16_alive_ps x (Func.ntmps Tryd.f7)) (kFin Tryd.prog noonmarklaw16_alive_rs Tryd.f7) = noonmarklaw16_alive n x := by
  rw [codeK_R, noonmarklaw16_alive_ex]
  rfl
def noonmarklaw16_alive_spec : Sp := ⟨noonmarklaw16_alive_ps, noonmarklaw16_alive_rs, noonmarklaw16_alive⟩
theorem noonmarklaw16_alive_ok : SoundX Tryd.prog CG 7 (.f noonmarklaw16_alive_spec) := sound_of (look_cons format_Abbr_ok look_nil) Tryd.func7 (by kernel_rfl) rfl noonmarklaw16_alive_an noonmarklaw16_alive_spec rfl rfl noonmarklaw16_alive_qx

/-! ### noonmark/format.Of -/
abbrev format_Of_ps : Ty := (.pair T_api_Era (.pair T_noonmarkref15_State .unit))
abbrev format_Of_rs : Ty := (.pair T_api_Local (.pair (.int .i64) .unit))
def format_Of_sp : Specs := look [(6, .f format_Abbr_spec)]
def format_Of_an : An := .o
def format_Of_px (n : Nat) (x : (D_api_Era × (D_noonmarkref15_State × Unit))) : Option (D_api_Local × (Int × Unit)) :=
  let t1 := w64 (x.1.1 + x.2.1.2.1)
  ((format_Abbr n (x.1.2.2.2.2.1, (x.2.1.2.2.1, (t1, ((x.2.1.2.1 != 0), ())))))).bind fun v2 =>
  bif (v2.2.1 != 0) then
    some (((0 : Int), (false, ((⟨#[]⟩ : ByteArray), ()))), (v2.2.1, ()))
  else
    some ((t1, ((x.2.1.2.1 != 0), (v2.1, ()))), (v2.2.1, ()))
def format_Of (n : Nat) (x : (D_api_Era × (D_noonmarkref15_State × Unit))) : Option (D_api_Local × (Int × Unit)) := format_Of_px n x
theorem format_Of_ex (n : Nat) (rc : Code → An → St → (Ex → St → Option (D_api_Local × (Int × Unit))) → Option (D_api_Local × (Int × Unit))) (x : (D_api_Era × (D_noonmarkref15_State × Unit))) : codeR rc Tryd.prog format_Of_sp n (bodyOf Tryd.f8) format_Of_an (start format_Of_ps x (Func.ntmps Tryd.f8)) (kFin Tryd.prog format_Of_rs Tryd.f8) = format_Of_px n x := by kernel_rfl
theorem format_Of_qx (n : Nat) (x : (D_api_Era × (D_noonmarkref15_State × Unit))) : codeK Tryd.prog format_Of_sp n (bodyOf Tryd.f8) format_Of_an (start format_Of_ps x (Func.ntmps Tryd.f8)) (kFin Tryd.prog format_Of_rs Tryd.f8) = format_Of n x := by
  rw [codeK_R, format_Of_ex]
  rfl
def format_Of_spec : Sp := ⟨format_Of_ps, format_Of_rs, format_Of⟩
theorem format_Of_ok : SoundX Tryd.prog CG 8 (.f format_Of_spec) := sound_of (look_cons format_Abbr_ok look_nil) Tryd.func8 (by kernel_rfl) rfl format_Of_an format_Of_spec rfl rfl format_Of_qx

/-! ### noonmark/format.At -/
abbrev format_At_ps : Ty := (.pair T_noonmarkref15_Zone (.pair (.int .i64) .unit))
abbrev format_At_rs : Ty := (.pair T_api_Local (.pair (.int .i64) .unit))
def format_At_sp : Specs := look [(11, .f den_At_spec), (8, .f format_Of_spec)]
def format_At_an : An := .o
def format_At_px (n : Nat) (x : (D_noonmarkref15_Zone × (Int × Unit))) : Option (D_api_Local × (Int × Unit)) :=
  ((den_At n (x.1, (x.2.1, ())))).bind fun v1 =>
  bif (v1.2.1 != 0) then
    some (((0 : Int), (false, ((⟨#[]⟩ : ByteArray), ()))), (v1.2.1, ()))
  else
    bif decide (0 ≤ v1.1.1) then
      ((x.1.1[Int.toNat v1.1.1]?)).bind fun e2 =>
      ((format_Of n (e2, (v1.1, ())))).bind fun v3 =>
      some (v3.1, (v3.2.1, ()))
    else none
def format_At (n : Nat) (x : (D_noonmarkref15_Zone × (Int × Unit))) : Option (D_api_Local × (Int × Unit)) := format_At_px n x
theorem format_At_ex (n : Nat) (rc : Code → An → St → (Ex → St → Option (D_api_Local × (Int × Unit))) → Option (D_api_Local × (Int × Unit))) (x : (D_noonmarkref15_Zone × (Int × Unit))) : codeR rc Tryd.prog format_At_sp n (bodyOf Tryd.f13) format_At_an (start format_At_ps x (Func.ntmps Tryd.f13)) (kFin Tryd.prog format_At_rs Tryd.f13) = format_At_px n x := by kernel_rfl
theorem format_At_qx (n : Nat) (x : (D_noonmarkref15_Zone × (Int × Unit))) : codeK Tryd.prog format_At_sp n (bodyOf Tryd.f13) format_At_an (start format_At_ps x (Func.ntmps Tryd.f13)) (kFin Tryd.prog format_At_rs Tryd.f13) = format_At n x := by
  rw [codeK_R, format_At_ex]
  rfl
def format_At_spec : Sp := ⟨format_At_ps, format_At_rs, format_At⟩
theorem format_At_ok : SoundX Tryd.prog CG 13 (.f format_At_spec) := sound_of (look_cons (weak_CG (fun _ => trivial) den_At_ok) (look_cons format_Of_ok look_nil)) Tryd.func13 (by kernel_rfl) rfl format_At_an format_At_spec rfl rfl format_At_qx

/-! ### noonmark/noonmarklaw16.FormatOffsets -/
abbrev noonmarklaw16_FormatOffsets_ps : Ty := (.pair T_noonmarkref15_Zone (.pair (.int .i64) .unit))
abbrev noonmarklaw16_FormatOffsets_rs : Ty := (.pair .bool .unit)
def noonmarklaw16_FormatOffsets_sp : Specs := look [(10, .f noonmarklaw15_Light_spec), (11, .f den_At_spec), (12, .f noonmarklaw15_Own_spec), (13, .f format_At_spec), (14, .f format_Plain_spec), (7, .f noonmarklaw16_alive_spec)]
def noonmarklaw16_FormatOffsets_an : An := .o
def noonmarklaw16_FormatOffsets_px (n : Nat) (x : (D_noonmarkref15_Zone × (Int × Unit))) : Option (Bool × Unit) :=
  ((noonmarklaw15_Light n (x.1, ()))).bind fun v1 =>
  bif (!v1.1) then
    ((noonmarklaw16_alive n ())).bind fun v2 =>
    some (v2.1, ())
  else
    ((noonmarklaw15_Own n (x.1, ()))).bind fun v3 =>
    ((den_At n (v3.1, (x.2.1, ())))).bind fun v4 =>
    ((noonmarklaw15_Own n (x.1, ()))).bind fun v5 =>
    ((format_At n (v5.1, (x.2.1, ())))).bind fun v6 =>
    bif (v4.2.1 != 0) then
      bif (v6.2.1 == v4.2.1) then
        bif (eqD T_api_Local v6.1 ((0 : Int), (false, ((⟨#[]⟩ : ByteArray), ())))) then
          ((noonmarklaw16_alive n ())).bind fun v7 =>
          some (v7.1, ())
        else
          some (false, ())
      else
        some (false, ())
    else
      bif (v6.2.1 != 0) then
        bif (v6.2.1 == 15) then
          bif (eqD T_api_Local v6.1 ((0 : Int), (false, ((⟨#[]⟩ : ByteArray), ())))) then
            ((noonmarklaw16_alive n ())).bind fun v8 =>
            some (v8.1, ())
          else
            some (false, ())
        else
          bif (v6.2.1 == 1) then
            bif (eqD T_api_Local v6.1 ((0 : Int), (false, ((⟨#[]⟩ : ByteArray), ())))) then
              ((noonmarklaw16_alive n ())).bind fun v9 =>
              some (v9.1, ())
            else
              some (false, ())
          else
            some (false, ())
      else
        bif (decide (v4.1.1 ≥ 0)) then
          bif (decide (v4.1.1 < (List.length x.1.1 : Int))) then
            bif decide (0 ≤ v4.1.1) then
              ((x.1.1[Int.toNat v4.1.1]?)).bind fun e10 =>
              bif (v6.1.1 == (w64 (e10.1 + v4.1.2.1))) then
                bif (v6.1.2.1 == (v4.1.2.1 != 0)) then
                  ((format_Plain n (v6.1.2.2.1, ()))).bind fun v12 =>
                  bif v12.1 then
                    ((noonmarklaw16_alive n ())).bind fun v13 =>
                    some (v13.1, ())
                  else
                    some (false, ())
                else
                  some (false, ())
              else
                some (false, ())
            else none
          else
            some (false, ())
        else
          some (false, ())
def noonmarklaw16_FormatOffsets (n : Nat) (x : (D_noonmarkref15_Zone × (Int × Unit))) : Option (Bool × Unit) := noonmarklaw16_FormatOffsets_px n x
theorem noonmarklaw16_FormatOffsets_ex (n : Nat) (rc : Code → An → St → (Ex → St → Option (Bool × Unit)) → Option (Bool × Unit)) (x : (D_noonmarkref15_Zone × (Int × Unit))) : codeR rc Tryd.prog noonmarklaw16_FormatOffsets_sp n (bodyOf Tryd.f5) noonmarklaw16_FormatOffsets_an (start noonmarklaw16_FormatOffsets_ps x (Func.ntmps Tryd.f5)) (kFin Tryd.prog noonmarklaw16_FormatOffsets_rs Tryd.f5) = noonmarklaw16_FormatOffsets_px n x := by kernel_rfl
theorem noonmarklaw16_FormatOffsets_qx (n : Nat) (x : (D_noonmarkref15_Zone × (Int × Unit))) : codeK Tryd.prog noonmarklaw16_FormatOffsets_sp n (bodyOf Tryd.f5) noonmarklaw16_FormatOffsets_an (start noonmarklaw16_FormatOffsets_ps x (Func.ntmps Tryd.f5)) (kFin Tryd.prog noonmarklaw16_FormatOffsets_rs Tryd.f5) = noonmarklaw16_FormatOffsets n x := by
  rw [codeK_R, noonmarklaw16_FormatOffsets_ex]
  rfl
def noonmarklaw16_FormatOffsets_spec : Sp := ⟨noonmarklaw16_FormatOffsets_ps, noonmarklaw16_FormatOffsets_rs, noonmarklaw16_FormatOffsets⟩
theorem noonmarklaw16_FormatOffsets_ok : SoundX Tryd.prog CG 5 (.f noonmarklaw16_FormatOffsets_spec) := sound_of (look_cons (weak_CG (fun _ => trivial) noonmarklaw15_Light_ok) (look_cons (weak_CG (fun _ => trivial) den_At_ok) (look_cons (weak_CG (fun _ => trivial) noonmarklaw15_Own_ok) (look_cons format_At_ok (look_cons format_Plain_ok (look_cons noonmarklaw16_alive_ok look_nil)))))) Tryd.func5 (by kernel_rfl) rfl noonmarklaw16_FormatOffsets_an noonmarklaw16_FormatOffsets_spec rfl rfl noonmarklaw16_FormatOffsets_qx
end Go.Proofs.YtadamegddcadcaaDoorPi
