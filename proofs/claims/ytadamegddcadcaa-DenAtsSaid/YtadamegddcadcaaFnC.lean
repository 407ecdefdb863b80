import Derived.Test.YtadamegddcadcaaFnB
set_option linter.unusedVariables false
set_option maxRecDepth 100000
set_option maxHeartbeats 4000000
set_option linter.unusedVariables false
namespace Go.Proofs.YtadamegddcadcaaPi
open Go Go.Proofs
abbrev T_den_State : Ty := (.pair (.int .i64) (.pair (.int .i64) (.pair .str .unit)))
abbrev D_den_State := (Int × (Int × (ByteArray × Unit)))
abbrev T_api_Until : Ty := (.pair .bool (.pair (.int .i64) (.pair (.int .i64) (.pair T_api_Day (.pair T_api_At .unit)))))
abbrev D_api_Until := (Bool × (Int × (Int × (D_api_Day × (D_api_At × Unit)))))
abbrev T_api_Era : Ty := (.pair (.int .i64) (.pair (.int .i64) (.pair (.int .i64) (.pair .str (.pair .str (.pair T_api_Until .unit))))))
abbrev D_api_Era := (Int × (Int × (Int × (ByteArray × (ByteArray × (D_api_Until × Unit))))))
abbrev T_noonmarkref15_Zone : Ty := (.pair (.list T_api_Era) (.pair (.list (.list T_api_Rule)) .unit))
abbrev D_noonmarkref15_Zone := ((List D_api_Era) × ((List (List D_api_Rule)) × Unit))
/-! ### noonmark/noonmarklaw14.Light -/
abbrev noonmarklaw14_Light_ps : Ty := (.pair (.list T_api_Rule) (.pair (.int .i64) .unit))
abbrev noonmarklaw14_Light_rs : Ty := (.pair .bool .unit)
def noonmarklaw14_Light_sp : Specs := look []
def noonmarklaw14_Light_an : An := (.s .o (.s .o (.k [] [] 0 (.k [] [0,5] 0 .o (.b (.l [] [0,5] 0 (.s .o (.k [] [0,5] 0 (.b (.s .o (.k [] [0,5,83] 0 .o .o))) .o))))) .o)))
abbrev noonmarklaw14_Light_t0 := Unit
def noonmarklaw14_Light_m0 (_z : noonmarklaw14_Light_t0) : St := ⟨[.junk, .junk, .junk, .junk, .junk, .junk, .junk, .junk, .junk, .junk, .junk, .junk, .junk, .junk, .junk, .junk, .junk, .junk, .junk, .junk, .junk, .junk, .junk, .junk, .junk, .junk, .junk, .junk, .junk, .junk, .junk, .junk, .junk, .junk, .junk, .junk, .junk, .junk, .junk, .junk, .junk, .junk, .junk, .junk, .junk, .junk, .junk, .junk, .junk, .junk, .junk, .junk, .junk, .junk, .junk, .junk, .junk, .junk, .junk, .junk, .junk, .junk, .junk, .junk, .junk, .junk, .junk, .junk, .junk, .junk, .junk, .junk, .junk, .junk, .junk, .junk, .junk, .junk, .junk, .junk, .junk, .junk, .junk, .junk], []⟩
abbrev noonmarklaw14_Light_t1 := (List D_api_Rule) × Int
def noonmarklaw14_Light_m1 (z : noonmarklaw14_Light_t1) : St := ⟨[.v ⟨(.list T_api_Rule), z.1⟩, .junk, .junk, .junk, .junk, .v ⟨(.int .i64), z.2⟩, .junk, .junk, .junk, .junk, .junk, .junk, .junk, .junk, .junk, .junk, .junk, .junk, .junk, .junk, .junk, .junk, .junk, .junk, .junk, .junk, .junk, .junk, .junk, .junk, .junk, .junk, .junk, .junk, .junk, .junk, .junk, .junk, .junk, .junk, .junk, .junk, .junk, .junk, .junk, .junk, .junk, .junk, .junk, .junk, .junk, .junk, .junk, .junk, .junk, .junk, .junk, .junk, .junk, .junk, .junk, .junk, .junk, .junk, .junk, .junk, .junk, .junk, .junk, .junk, .junk, .junk, .junk, .junk, .junk, .junk, .junk, .junk, .junk, .junk, .junk, .junk, .junk, .junk], []⟩
abbrev noonmarklaw14_Light_t2 := (List D_api_Rule) × Int
def noonmarklaw14_Light_m2 (z : noonmarklaw14_Light_t2) : St := ⟨[.v ⟨(.list T_api_Rule), z.1⟩, .junk, .junk, .junk, .junk, .v ⟨(.int .i64), z.2⟩, .junk, .junk, .junk, .junk, .junk, .junk, .junk, .junk, .junk, .junk, .junk, .junk, .junk, .junk, .junk, .junk, .junk, .junk, .junk, .junk, .junk, .junk, .junk, .junk, .junk, .junk, .junk, .junk, .junk, .junk, .junk, .junk, .junk, .junk, .junk, .junk, .junk, .junk, .junk, .junk, .junk, .junk, .junk, .junk, .junk, .junk, .junk, .junk, .junk, .junk, .junk, .junk, .junk, .junk, .junk, .junk, .junk, .junk, .junk, .junk, .junk, .junk, .junk, .junk, .junk, .junk, .junk, .junk, .junk, .junk, .junk, .junk, .junk, .junk, .junk, .junk, .junk, .junk], []⟩
abbrev noonmarklaw14_Light_t3 := (List D_api_Rule) × Int
def noonmarklaw14_Light_m3 (z : noonmarklaw14_Light_t3) : St := ⟨[.v ⟨(.list T_api_Rule), z.1⟩, .junk, .junk, .junk, .junk, .v ⟨(.int .i64), z.2⟩, .junk, .junk, .junk, .junk, .junk, .junk, .junk, .junk, .junk, .junk, .junk, .junk, .junk, .junk, .junk, .junk, .junk, .junk, .junk, .junk, .junk, .junk, .junk, .junk, .junk, .junk, .junk, .junk, .junk, .junk, .junk, .junk, .junk, .junk, .junk, .junk, .junk, .junk, .junk, .junk, .junk, .junk, .junk, .junk, .junk, .junk, .junk, .junk, .junk, .junk, .junk, .junk, .junk, .junk, .junk, .junk, .junk, .junk, .junk, .junk, .junk, .junk, .junk, .junk, .junk, .junk, .junk, .junk, .junk, .junk, .junk, .junk, .junk, .junk, .junk, .junk, .junk, .junk], []⟩
abbrev noonmarklaw14_Light_t4 := (List D_api_Rule) × Int × Bool
def noonmarklaw14_Light_m4 (z : noonmarklaw14_Light_t4) : St := ⟨[.v ⟨(.list T_api_Rule), z.1⟩, .junk, .junk, .junk, .junk, .v ⟨(.int .i64), z.2.1⟩, .junk, .junk, .junk, .junk, .junk, .junk, .junk, .junk, .junk, .junk, .junk, .junk, .junk, .junk, .junk, .junk, .junk, .junk, .junk, .junk, .junk, .junk, .junk, .junk, .junk, .junk, .junk, .junk, .junk, .junk, .junk, .junk, .junk, .junk, .junk, .junk, .junk, .junk, .junk, .junk, .junk, .junk, .junk, .junk, .junk, .junk, .junk, .junk, .junk, .junk, .junk, .junk, .junk, .junk, .junk, .junk, .junk, .junk, .junk, .junk, .junk, .junk, .junk, .junk, .junk, .junk, .junk, .junk, .junk, .junk, .junk, .junk, .junk, .junk, .junk, .junk, .junk, .v ⟨.bool, z.2.2⟩], []⟩
def noonmarklaw14_Light_p0 (_n : Nat) (_z : noonmarklaw14_Light_t0) : Option (Bool × Unit) :=
  some (true, ())
def noonmarklaw14_Light_s0 (n : Nat) (z : noonmarklaw14_Light_t0) : Option (Bool × Unit) := noonmarklaw14_Light_p0 n z
theorem noonmarklaw14_Light_e0 (n : Nat) (rc : Code → An → St → (Ex → St → Option (Bool × Unit)) → Option (Bool × Unit)) (z : noonmarklaw14_Light_t0) : codeR rc Try.prog noonmarklaw14_Light_sp n (cr (cr (cr (bodyOf Try.f12)))) noonmarklaw14_Light_an.right.right.right (noonmarklaw14_Light_m0 z) (kFin Try.prog noonmarklaw14_Light_rs Try.f12) = noonmarklaw14_Light_p0 n z := by kernel_rfl
theorem noonmarklaw14_Light_q0 (n : Nat) (z : noonmarklaw14_Light_t0) : codeK Try.prog noonmarklaw14_Light_sp n (cr (cr (cr (bodyOf Try.f12)))) noonmarklaw14_Light_an.right.right.right (noonmarklaw14_Light_m0 z) (kFin Try.prog noonmarklaw14_Light_rs Try.f12) = noonmarklaw14_Light_s0 n z := by
  rw [codeK_R, noonmarklaw14_Light_e0]
  rfl
def noonmarklaw14_Light_p3 (_n : Nat) (_k0 : noonmarklaw14_Light_t0 → Option (Bool × Unit)) (r2 : noonmarklaw14_Light_t2 → Option (Bool × Unit)) (z : noonmarklaw14_Light_t3) : Option (Bool × Unit) :=
  r2 (z.1, (w64 (z.2 + 1)))
def noonmarklaw14_Light_s3 (n : Nat) (k0 : noonmarklaw14_Light_t0 → Option (Bool × Unit)) (r2 : noonmarklaw14_Light_t2 → Option (Bool × Unit)) (z : noonmarklaw14_Light_t3) : Option (Bool × Unit) := noonmarklaw14_Light_p3 n k0 r2 z
theorem noonmarklaw14_Light_e3 (n : Nat) (k0 : St → Option (Bool × Unit)) (r2 : St → Option (Bool × Unit)) (rc : Code → An → St → (Ex → St → Option (Bool × Unit)) → Option (Bool × Unit)) (z : noonmarklaw14_Light_t3) : codeR rc Try.prog noonmarklaw14_Light_sp n (cr (cr (cl (cl (cr (cl (cr (cr (bodyOf Try.f12))))))))) noonmarklaw14_Light_an.right.right.left.right.left.left.right.right (noonmarklaw14_Light_m3 z) (kSeq r2 noonmarklaw14_Light_an.right.right.left.right.left (kBlk 0 (kSeq k0 noonmarklaw14_Light_an.right.right (kFin Try.prog noonmarklaw14_Light_rs Try.f12)))) = noonmarklaw14_Light_p3 n (fun y => k0 (noonmarklaw14_Light_m0 y)) (fun y => r2 (noonmarklaw14_Light_m2 y)) z := by kernel_rfl
theorem noonmarklaw14_Light_q3 (n : Nat) (k0 : St → Option (Bool × Unit)) (r2 : St → Option (Bool × Unit)) (z : noonmarklaw14_Light_t3) : codeK Try.prog noonmarklaw14_Light_sp n (cr (cr (cl (cl (cr (cl (cr (cr (bodyOf Try.f12))))))))) noonmarklaw14_Light_an.right.right.left.right.left.left.right.right (noonmarklaw14_Light_m3 z) (kSeq r2 noonmarklaw14_Light_an.right.right.left.right.left (kBlk 0 (kSeq k0 noonmarklaw14_Light_an.right.right (kFin Try.prog noonmarklaw14_Light_rs Try.f12)))) = noonmarklaw14_Light_s3 n (fun y => k0 (noonmarklaw14_Light_m0 y)) (fun y => r2 (noonmarklaw14_Light_m2 y)) z := by
  rw [codeK_R, noonmarklaw14_Light_e3]
  rfl
def noonmarklaw14_Light_p4 (_n : Nat) (_k0 : noonmarklaw14_Light_t0 → Option (Bool × Unit)) (_r2 : noonmarklaw14_Light_t2 → Option (Bool × Unit)) (k3 : noonmarklaw14_Light_t3 → Option (Bool × Unit)) (z : noonmarklaw14_Light_t4) : Option (Bool × Unit) :=
  bif z.2.2 then
    some (false, ())
  else
    k3 (z.1, z.2.1)
def noonmarklaw14_Light_s4 (n : Nat) (k0 : noonmarklaw14_Light_t0 → Option (Bool × Unit)) (r2 : noonmarklaw14_Light_t2 → Option (Bool × Unit)) (k3 : noonmarklaw14_Light_t3 → Option (Bool × Unit)) (z : noonmarklaw14_Light_t4) : Option (Bool × Unit) := noonmarklaw14_Light_p4 n k0 r2 k3 z
theorem noonmarklaw14_Light_e4 (n : Nat) (k0 : St → Option (Bool × Unit)) (r2 : St → Option (Bool × Unit)) (k3 : St → Option (Bool × Unit)) (rc : Code → An → St → (Ex → St → Option (Bool × Unit)) → Option (Bool × Unit)) (z : noonmarklaw14_Light_t4) : codeR rc Try.prog noonmarklaw14_Light_sp n (cr (cr (cl (cl (cr (cl (cl (cr (cl (cr (cr (bodyOf Try.f12)))))))))))) noonmarklaw14_Light_an.right.right.left.right.left.left.right.left.left.right.right (noonmarklaw14_Light_m4 z) (kBlk 1 (kSeq k3 noonmarklaw14_Light_an.right.right.left.right.left.left.right (kSeq r2 noonmarklaw14_Light_an.right.right.left.right.left (kBlk 0 (kSeq k0 noonmarklaw14_Light_an.right.right (kFin Try.prog noonmarklaw14_Light_rs Try.f12)))))) = noonmarklaw14_Light_p4 n (fun y => k0 (noonmarklaw14_Light_m0 y)) (fun y => r2 (noonmarklaw14_Light_m2 y)) (fun y => k3 (noonmarklaw14_Light_m3 y)) z := by kernel_rfl
theorem noonmarklaw14_Light_q4 (n : Nat) (k0 : St → Option (Bool × Unit)) (r2 : St → Option (Bool × Unit)) (k3 : St → Option (Bool × Unit)) (z : noonmarklaw14_Light_t4) : codeK Try.prog noonmarklaw14_Light_sp n (cr (cr (cl (cl (cr (cl (cl (cr (cl (cr (cr (bodyOf Try.f12)))))))))))) noonmarklaw14_Light_an.right.right.left.right.left.left.right.left.left.right.right (noonmarklaw14_Light_m4 z) (kBlk 1 (kSeq k3 noonmarklaw14_Light_an.right.right.left.right.left.left.right (kSeq r2 noonmarklaw14_Light_an.right.right.left.right.left (kBlk 0 (kSeq k0 noonmarklaw14_Light_an.right.right (kFin Try.prog noonmarklaw14_Light_rs Try.f12)))))) = noonmarklaw14_Light_s4 n (fun y => k0 (noonmarklaw14_Light_m0 y)) (fun y => r2 (noonmarklaw14_Light_m2 y)) (fun y => k3 (noonmarklaw14_Light_m3 y)) z := by
  rw [codeK_R, noonmarklaw14_Light_e4]
  rfl
def noonmarklaw14_Light_p2 (_n : Nat) (k0 : noonmarklaw14_Light_t0 → Option (Bool × Unit)) (_r2 : noonmarklaw14_Light_t2 → Option (Bool × Unit)) (k3 : noonmarklaw14_Light_t3 → Option (Bool × Unit)) (k4 : noonmarklaw14_Light_t4 → Option (Bool × Unit)) (z : noonmarklaw14_Light_t2) : Option (Bool × Unit) :=
  bif (decide (z.2 < (List.length z.1 : Int))) then
    bif decide (0 ≤ z.2) then
      ((z.1[Int.toNat z.2]?)).bind fun e1 =>
      bif decide (0 ≤ z.2) then
        ((z.1[Int.toNat z.2]?)).bind fun e2 =>
        bif (decide (e1.2.2.2.2.2.1.1 < (-700000))) then
          k4 (z.1, z.2, true)
        else
          bif (decide (e1.2.2.2.2.2.1.1 > 700000)) then
            k4 (z.1, z.2, true)
          else
            bif (decide (e2.2.2.2.2.2.2.1 < (-100000))) then
              k4 (z.1, z.2, true)
            else
              bif (decide (e2.2.2.2.2.2.2.1 > 100000)) then
                k4 (z.1, z.2, true)
              else
                bif decide (0 ≤ z.2) then
                  ((z.1[Int.toNat z.2]?)).bind fun e3 =>
                  bif (decide ((ByteArray.size e3.2.2.2.2.2.2.2.1 : Int) > 50)) then
                    k4 (z.1, z.2, true)
                  else
                    bif decide (0 ≤ z.2) then
                      ((z.1[Int.toNat z.2]?)).bind fun e4 =>
                      bif (decide (e4.2.1 < (-20000))) then
                        k4 (z.1, z.2, true)
                      else
                        bif decide (0 ≤ z.2) then
                          ((z.1[Int.toNat z.2]?)).bind fun e5 =>
                          bif (decide (e5.2.1 > 20000)) then
                            k4 (z.1, z.2, true)
                          else
                            bif decide (0 ≤ z.2) then
                              ((z.1[Int.toNat z.2]?)).bind fun e6 =>
                              bif (decide (e6.2.2.1 < (-20000))) then
                                k4 (z.1, z.2, true)
                              else
                                bif decide (0 ≤ z.2) then
                                  ((z.1[Int.toNat z.2]?)).bind fun e7 =>
                                  k4 (z.1, z.2, (decide (e7.2.2.1 > 20000)))
                                else none
                            else none
                        else none
                    else none
                else none
      else none
    else none
  else
    k0 ()
def noonmarklaw14_Light_s2 (n : Nat) (k0 : noonmarklaw14_Light_t0 → Option (Bool × Unit)) (r2 : noonmarklaw14_Light_t2 → Option (Bool × Unit)) (z : noonmarklaw14_Light_t2) : Option (Bool × Unit) := noonmarklaw14_Light_p2 n k0 r2 (noonmarklaw14_Light_s3 n k0 r2) (noonmarklaw14_Light_s4 n k0 r2 (noonmarklaw14_Light_s3 n k0 r2)) z
theorem noonmarklaw14_Light_e2 (n : Nat) (k0 : St → Option (Bool × Unit)) (r2 : St → Option (Bool × Unit)) (rc : Code → An → St → (Ex → St → Option (Bool × Unit)) → Option (Bool × Unit)) (z : noonmarklaw14_Light_t2) : codeR rc Try.prog noonmarklaw14_Light_sp n (cl (cl (cr (cl (cr (cr (bodyOf Try.f12))))))) noonmarklaw14_Light_an.right.right.left.right.left.left (noonmarklaw14_Light_m2 z) (kSeq r2 noonmarklaw14_Light_an.right.right.left.right.left (kBlk 0 (kSeq k0 noonmarklaw14_Light_an.right.right (kFin Try.prog noonmarklaw14_Light_rs Try.f12)))) = noonmarklaw14_Light_p2 n (fun y => k0 (noonmarklaw14_Light_m0 y)) (fun y => r2 (noonmarklaw14_Light_m2 y)) (fun y => rc (cr (cr (cl (cl (cr (cl (cr (cr (bodyOf Try.f12))))))))) noonmarklaw14_Light_an.right.right.left.right.left.left.right.right (noonmarklaw14_Light_m3 y) (kSeq r2 noonmarklaw14_Light_an.right.right.left.right.left (kBlk 0 (kSeq k0 noonmarklaw14_Light_an.right.right (kFin Try.prog noonmarklaw14_Light_rs Try.f12))))) (fun y => rc (cr (cr (cl (cl (cr (cl (cl (cr (cl (cr (cr (bodyOf Try.f12)))))))))))) noonmarklaw14_Light_an.right.right.left.right.left.left.right.left.left.right.right (noonmarklaw14_Light_m4 y) (kBlk 1 (kSeq (fun st => rc (cr (cr (cl (cl (cr (cl (cr (cr (bodyOf Try.f12))))))))) noonmarklaw14_Light_an.right.right.left.right.left.left.right.right st (kSeq r2 noonmarklaw14_Light_an.right.right.left.right.left (kBlk 0 (kSeq k0 noonmarklaw14_Light_an.right.right (kFin Try.prog noonmarklaw14_Light_rs Try.f12))))) noonmarklaw14_Light_an.right.right.left.right.left.left.right (kSeq r2 noonmarklaw14_Light_an.right.right.left.right.left (kBlk 0 (kSeq k0 noonmarklaw14_Light_an.right.right (kFin Try.prog noonmarklaw14_Light_rs Try.f12))))))) z := by kernel_rfl
theorem noonmarklaw14_Light_q2 (n : Nat) (k0 : St → Option (Bool × Unit)) (r2 : St → Option (Bool × Unit)) (z : noonmarklaw14_Light_t2) : codeK Try.prog noonmarklaw14_Light_sp n (cl (cl (cr (cl (cr (cr (bodyOf Try.f12))))))) noonmarklaw14_Light_an.right.right.left.right.left.left (noonmarklaw14_Light_m2 z) (kSeq r2 noonmarklaw14_Light_an.right.right.left.right.left (kBlk 0 (kSeq k0 noonmarklaw14_Light_an.right.right (kFin Try.prog noonmarklaw14_Light_rs Try.f12)))) = noonmarklaw14_Light_s2 n (fun y => k0 (noonmarklaw14_Light_m0 y)) (fun y => r2 (noonmarklaw14_Light_m2 y)) z := by
  have h3 : (fun y => codeK Try.prog noonmarklaw14_Light_sp n (cr (cr (cl (cl (cr (cl (cr (cr (bodyOf Try.f12))))))))) noonmarklaw14_Light_an.right.right.left.right.left.left.right.right (noonmarklaw14_Light_m3 y) (kSeq r2 noonmarklaw14_Light_an.right.right.left.right.left (kBlk 0 (kSeq k0 noonmarklaw14_Light_an.right.right (kFin Try.prog noonmarklaw14_Light_rs Try.f12))))) = (noonmarklaw14_Light_s3 n (fun y => k0 (noonmarklaw14_Light_m0 y)) (fun y => r2 (noonmarklaw14_Light_m2 y))) := funext fun y => by
    have := noonmarklaw14_Light_q3 n k0 r2 y
    exact this
  have h4 : (fun y => codeK Try.prog noonmarklaw14_Light_sp n (cr (cr (cl (cl (cr (cl (cl (cr (cl (cr (cr (bodyOf Try.f12)))))))))))) noonmarklaw14_Light_an.right.right.left.right.left.left.right.left.left.right.right (noonmarklaw14_Light_m4 y) (kBlk 1 (kSeq (fun st => codeK Try.prog noonmarklaw14_Light_sp n (cr (cr (cl (cl (cr (cl (cr (cr (bodyOf Try.f12))))))))) noonmarklaw14_Light_an.right.right.left.right.left.left.right.right st (kSeq r2 noonmarklaw14_Light_an.right.right.left.right.left (kBlk 0 (kSeq k0 noonmarklaw14_Light_an.right.right (kFin Try.prog noonmarklaw14_Light_rs Try.f12))))) noonmarklaw14_Light_an.right.right.left.right.left.left.right (kSeq r2 noonmarklaw14_Light_an.right.right.left.right.left (kBlk 0 (kSeq k0 noonmarklaw14_Light_an.right.right (kFin Try.prog noonmarklaw14_Light_rs Try.f12))))))) = (noonmarklaw14_Light_s4 n (fun y => k0 (noonmarklaw14_Light_m0 y)) (fun y => r2 (noonmarklaw14_Light_m2 y)) (noonmarklaw14_Light_s3 n (fun y => k0 (noonmarklaw14_Light_m0 y)) (fun y => r2 (noonmarklaw14_Light_m2 y)))) := funext fun y => by
    have := noonmarklaw14_Light_q4 n k0 r2 (fun st => codeK Try.prog noonmarklaw14_Light_sp n (cr (cr (cl (cl (cr (cl (cr (cr (bodyOf Try.f12))))))))) noonmarklaw14_Light_an.right.right.left.right.left.left.right.right st (kSeq r2 noonmarklaw14_Light_an.right.right.left.right.left (kBlk 0 (kSeq k0 noonmarklaw14_Light_an.right.right (kFin Try.prog noonmarklaw14_Light_rs Try.f12))))) y
    rw [h3] at this; exact this
  rw [codeK_R, noonmarklaw14_Light_e2]
  rw [h3]
  rw [h4]
  rfl
def noonmarklaw14_Light_s1 (n : Nat) (k0 : noonmarklaw14_Light_t0 → Option (Bool × Unit)) (z : noonmarklaw14_Light_t1) : Option (Bool × Unit) :=
  rounds (fun r2 x' => noonmarklaw14_Light_s2 n k0 r2 x') n (z.1, z.2)
theorem noonmarklaw14_Light_q1 (n : Nat) (k0 : St → Option (Bool × Unit)) (z : noonmarklaw14_Light_t1) : codeK Try.prog noonmarklaw14_Light_sp n (cr (cl (cr (cr (bodyOf Try.f12))))) noonmarklaw14_Light_an.right.right.left.right (noonmarklaw14_Light_m1 z) (kSeq k0 noonmarklaw14_Light_an.right.right (kFin Try.prog noonmarklaw14_Light_rs Try.f12)) = noonmarklaw14_Light_s1 n (fun y => k0 (noonmarklaw14_Light_m0 y)) z :=
  Eq.trans (b := rounds (fun r2 st => codeK Try.prog noonmarklaw14_Light_sp n (cl (cl (cr (cl (cr (cr (bodyOf Try.f12))))))) noonmarklaw14_Light_an.right.right.left.right.left.left st (kSeq r2 noonmarklaw14_Light_an.right.right.left.right.left (kBlk 0 (kSeq k0 noonmarklaw14_Light_an.right.right (kFin Try.prog noonmarklaw14_Light_rs Try.f12))))) n (noonmarklaw14_Light_m2 (z.1, z.2))) (by kernel_rfl) (rounds_mk noonmarklaw14_Light_m2 (fun r2 x' => by
    have := (noonmarklaw14_Light_q2 n k0 r2 x')
    exact this) n _)
def noonmarklaw14_Light_px (_n : Nat) (k0 : noonmarklaw14_Light_t0 → Option (Bool × Unit)) (k1 : noonmarklaw14_Light_t1 → Option (Bool × Unit)) (x : ((List D_api_Rule) × (Int × Unit))) : Option (Bool × Unit) :=
  bif (decide ((List.length x.1 : Int) > x.2.1)) then
    some (false, ())
  else
    k1 (x.1, (0 : Int))
def noonmarklaw14_Light (n : Nat) (x : ((List D_api_Rule) × (Int × Unit))) : Option (Bool × Unit) := noonmarklaw14_Light_px n (noonmarklaw14_Light_s0 n) (noonmarklaw14_Light_s1 n (noonmarklaw14_Light_s0 n)) x
theorem noonmarklaw14_Light_ex (n : Nat) (rc : Code → An → St → (Ex → St → Option (Bool × Unit)) → Option (Bool × Unit)) (x : ((List D_api_Rule) × (Int × Unit))) : codeR rc Try.prog noonmarklaw14_Light_sp n (bodyOf Try.f12) noonmarklaw14_Light_an (start noonmarklaw14_Light_ps x (Func.ntmps Try.f12)) (kFin Try.prog noonmarklaw14_Light_rs Try.f12) = noonmarklaw14_Light_px n (fun y => rc (cr (cr (cr (bodyOf Try.f12)))) noonmarklaw14_Light_an.right.right.right (noonmarklaw14_Light_m0 y) (kFin Try.prog noonmarklaw14_Light_rs Try.f12)) (fun y => rc (cr (cl (cr (cr (bodyOf Try.f12))))) noonmarklaw14_Light_an.right.right.left.right (noonmarklaw14_Light_m1 y) (kSeq (fun st => rc (cr (cr (cr (bodyOf Try.f12)))) noonmarklaw14_Light_an.right.right.right st (kFin Try.prog noonmarklaw14_Light_rs Try.f12)) noonmarklaw14_Light_an.right.right (kFin Try.prog noonmarklaw14_Light_rs Try.f12))) x := by kernel_rfl
theorem noonmarklaw14_Light_qx (n : Nat) (x : ((List D_api_Rule) × (Int × Unit))) : codeK Try.prog noonmarklaw14_Light_sp n (bodyOf Try.f12) noonmarklaw14_Light_an (start noonmarklaw14_Light_ps x (Func.ntmps Try.f12)) (kFin Try.prog noonmarklaw14_Light_rs Try.f12) = noonmarklaw14_Light n x := by
  have h0 : (fun y => codeK Try.prog noonmarklaw14_Light_sp n (cr (cr (cr (bodyOf Try.f12)))) noonmarklaw14_Light_an.right.right.right (noonmarklaw14_Light_m0 y) (kFin Try.prog noonmarklaw14_Light_rs Try.f12)) = (noonmarklaw14_Light_s0 n) := funext fun y => by
    have := noonmarklaw14_Light_q0 n  y
    exact this
  have h1 : (fun y => codeK Try.prog noonmarklaw14_Light_sp n (cr (cl (cr (cr (bodyOf Try.f12))))) noonmarklaw14_Light_an.right.right.left.right (noonmarklaw14_Light_m1 y) (kSeq (fun st => codeK Try.prog noonmarklaw14_Light_sp n (cr (cr (cr (bodyOf Try.f12)))) noonmarklaw14_Light_an.right.right.right st (kFin Try.prog noonmarklaw14_Light_rs Try.f12)) noonmarklaw14_Light_an.right.right (kFin Try.prog noonmarklaw14_Light_rs Try.f12))) = (noonmarklaw14_Light_s1 n (noonmarklaw14_Light_s0 n)) := funext fun y => by
    have := noonmarklaw14_Light_q1 n (fun st => codeK Try.prog noonmarklaw14_Light_sp n (cr (cr (cr (bodyOf Try.f12)))) noonmarklaw14_Light_an.right.right.right st (kFin Try.prog noonmarklaw14_Light_rs Try.f12)) y
    rw [h0] at this; exact this
  rw [codeK_R, noonmarklaw14_Light_ex]
  rw [h0]
  rw [h1]
  rfl
def noonmarklaw14_Light_spec : Sp := ⟨noonmarklaw14_Light_ps, noonmarklaw14_Light_rs, noonmarklaw14_Light⟩
theorem noonmarklaw14_Light_ok : SoundX Try.prog CX 12 (.f noonmarklaw14_Light_spec) := sound_of look_nil Try.func12 (by kernel_rfl) rfl noonmarklaw14_Light_an noonmarklaw14_Light_spec rfl rfl noonmarklaw14_Light_qx

/-! ### noonmark/noonmarklaw15.Light -/
abbrev noonmarklaw15_Light_ps : Ty := (.pair T_noonmarkref15_Zone .unit)
abbrev noonmarklaw15_Light_rs : Ty := (.pair .bool .unit)
def noonmarklaw15_Light_sp : Specs := look [(12, .f noonmarklaw14_Light_spec)]
def noonmarklaw15_Light_an : An := (.s .o (.s .o (.k [] [1] 1 (.k [] [1,3] 1 .o (.b (.l [] [1,3] 1 .o))) (.k [] [] 0 (.k [] [1,4] 1 .o (.b (.l [] [1,4] 1 (.s .o (.k [] [1,4] 1 (.b (.s .o (.k [] [1,4,85] 1 .o .o))) .o))))) .o))))
abbrev noonmarklaw15_Light_t0 := D_noonmarkref15_Zone
def noonmarklaw15_Light_m0 (z : noonmarklaw15_Light_t0) : St := ⟨[.junk, .v ⟨(.ptr 0 0 T_noonmarkref15_Zone), ()⟩, .junk, .junk, .junk, .junk, .junk, .junk, .junk, .junk, .junk, .junk, .junk, .junk, .junk, .junk, .junk, .junk, .junk, .junk, .junk, .junk, .junk, .junk, .junk, .junk, .junk, .junk, .junk, .junk, .junk, .junk, .junk, .junk, .junk, .junk, .junk, .junk, .junk, .junk, .junk, .junk, .junk, .junk, .junk, .junk, .junk, .junk, .junk, .junk, .junk, .junk, .junk, .junk, .junk, .junk, .junk, .junk, .junk, .junk, .junk, .junk, .junk, .junk, .junk, .junk, .junk, .junk, .junk, .junk, .junk, .junk, .junk, .junk, .junk, .junk, .junk, .junk, .junk, .junk, .junk, .junk, .junk, .junk, .junk, .junk], [some (.one ⟨T_noonmarkref15_Zone, z⟩)]⟩
abbrev noonmarklaw15_Light_t1 := Int × D_noonmarkref15_Zone
def noonmarklaw15_Light_m1 (z : noonmarklaw15_Light_t1) : St := ⟨[.junk, .v ⟨(.ptr 0 0 T_noonmarkref15_Zone), ()⟩, .junk, .v ⟨(.int .i64), z.1⟩, .junk, .junk, .junk, .junk, .junk, .junk, .junk, .junk, .junk, .junk, .junk, .junk, .junk, .junk, .junk, .junk, .junk, .junk, .junk, .junk, .junk, .junk, .junk, .junk, .junk, .junk, .junk, .junk, .junk, .junk, .junk, .junk, .junk, .junk, .junk, .junk, .junk, .junk, .junk, .junk, .junk, .junk, .junk, .junk, .junk, .junk, .junk, .junk, .junk, .junk, .junk, .junk, .junk, .junk, .junk, .junk, .junk, .junk, .junk, .junk, .junk, .junk, .junk, .junk, .junk, .junk, .junk, .junk, .junk, .junk, .junk, .junk, .junk, .junk, .junk, .junk, .junk, .junk, .junk, .junk, .junk, .junk], [some (.one ⟨T_noonmarkref15_Zone, z.2⟩)]⟩
abbrev noonmarklaw15_Light_t2 := Int × D_noonmarkref15_Zone
def noonmarklaw15_Light_m2 (z : noonmarklaw15_Light_t2) : St := ⟨[.junk, .v ⟨(.ptr 0 0 T_noonmarkref15_Zone), ()⟩, .junk, .v ⟨(.int .i64), z.1⟩, .junk, .junk, .junk, .junk, .junk, .junk, .junk, .junk, .junk, .junk, .junk, .junk, .junk, .junk, .junk, .junk, .junk, .junk, .junk, .junk, .junk, .junk, .junk, .junk, .junk, .junk, .junk, .junk, .junk, .junk, .junk, .junk, .junk, .junk, .junk, .junk, .junk, .junk, .junk, .junk, .junk, .junk, .junk, .junk, .junk, .junk, .junk, .junk, .junk, .junk, .junk, .junk, .junk, .junk, .junk, .junk, .junk, .junk, .junk, .junk, .junk, .junk, .junk, .junk, .junk, .junk, .junk, .junk, .junk, .junk, .junk, .junk, .junk, .junk, .junk, .junk, .junk, .junk, .junk, .junk, .junk, .junk], [some (.one ⟨T_noonmarkref15_Zone, z.2⟩)]⟩
abbrev noonmarklaw15_Light_t3 := Unit
def noonmarklaw15_Light_m3 (_z : noonmarklaw15_Light_t3) : St := ⟨[.junk, .junk, .junk, .junk, .junk, .junk, .junk, .junk, .junk, .junk, .junk, .junk, .junk, .junk, .junk, .junk, .junk, .junk, .junk, .junk, .junk, .junk, .junk, .junk, .junk, .junk, .junk, .junk, .junk, .junk, .junk, .junk, .junk, .junk, .junk, .junk, .junk, .junk, .junk, .junk, .junk, .junk, .junk, .junk, .junk, .junk, .junk, .junk, .junk, .junk, .junk, .junk, .junk, .junk, .junk, .junk, .junk, .junk, .junk, .junk, .junk, .junk, .junk, .junk, .junk, .junk, .junk, .junk, .junk, .junk, .junk, .junk, .junk, .junk, .junk, .junk, .junk, .junk, .junk, .junk, .junk, .junk, .junk, .junk, .junk, .junk], []⟩
abbrev noonmarklaw15_Light_t4 := Int × D_noonmarkref15_Zone
def noonmarklaw15_Light_m4 (z : noonmarklaw15_Light_t4) : St := ⟨[.junk, .v ⟨(.ptr 0 0 T_noonmarkref15_Zone), ()⟩, .junk, .junk, .v ⟨(.int .i64), z.1⟩, .junk, .junk, .junk, .junk, .junk, .junk, .junk, .junk, .junk, .junk, .junk, .junk, .junk, .junk, .junk, .junk, .junk, .junk, .junk, .junk, .junk, .junk, .junk, .junk, .junk, .junk, .junk, .junk, .junk, .junk, .junk, .junk, .junk, .junk, .junk, .junk, .junk, .junk, .junk, .junk, .junk, .junk, .junk, .junk, .junk, .junk, .junk, .junk, .junk, .junk, .junk, .junk, .junk, .junk, .junk, .junk, .junk, .junk, .junk, .junk, .junk, .junk, .junk, .junk, .junk, .junk, .junk, .junk, .junk, .junk, .junk, .junk, .junk, .junk, .junk, .junk, .junk, .junk, .junk, .junk, .junk], [some (.one ⟨T_noonmarkref15_Zone, z.2⟩)]⟩
abbrev noonmarklaw15_Light_t5 := Int × D_noonmarkref15_Zone
def noonmarklaw15_Light_m5 (z : noonmarklaw15_Light_t5) : St := ⟨[.junk, .v ⟨(.ptr 0 0 T_noonmarkref15_Zone), ()⟩, .junk, .junk, .v ⟨(.int .i64), z.1⟩, .junk, .junk, .junk, .junk, .junk, .junk, .junk, .junk, .junk, .junk, .junk, .junk, .junk, .junk, .junk, .junk, .junk, .junk, .junk, .junk, .junk, .junk, .junk, .junk, .junk, .junk, .junk, .junk, .junk, .junk, .junk, .junk, .junk, .junk, .junk, .junk, .junk, .junk, .junk, .junk, .junk, .junk, .junk, .junk, .junk, .junk, .junk, .junk, .junk, .junk, .junk, .junk, .junk, .junk, .junk, .junk, .junk, .junk, .junk, .junk, .junk, .junk, .junk, .junk, .junk, .junk, .junk, .junk, .junk, .junk, .junk, .junk, .junk, .junk, .junk, .junk, .junk, .junk, .junk, .junk, .junk], [some (.one ⟨T_noonmarkref15_Zone, z.2⟩)]⟩
abbrev noonmarklaw15_Light_t6 := Int × D_noonmarkref15_Zone
def noonmarklaw15_Light_m6 (z : noonmarklaw15_Light_t6) : St := ⟨[.junk, .v ⟨(.ptr 0 0 T_noonmarkref15_Zone), ()⟩, .junk, .junk, .v ⟨(.int .i64), z.1⟩, .junk, .junk, .junk, .junk, .junk, .junk, .junk, .junk, .junk, .junk, .junk, .junk, .junk, .junk, .junk, .junk, .junk, .junk, .junk, .junk, .junk, .junk, .junk, .junk, .junk, .junk, .junk, .junk, .junk, .junk, .junk, .junk, .junk, .junk, .junk, .junk, .junk, .junk, .junk, .junk, .junk, .junk, .junk, .junk, .junk, .junk, .junk, .junk, .junk, .junk, .junk, .junk, .junk, .junk, .junk, .junk, .junk, .junk, .junk, .junk, .junk, .junk, .junk, .junk, .junk, .junk, .junk, .junk, .junk, .junk, .junk, .junk, .junk, .junk, .junk, .junk, .junk, .junk, .junk, .junk, .junk], [some (.one ⟨T_noonmarkref15_Zone, z.2⟩)]⟩
abbrev noonmarklaw15_Light_t7 := Int × Bool × D_noonmarkref15_Zone
def noonmarklaw15_Light_m7 (z : noonmarklaw15_Light_t7) : St := ⟨[.junk, .v ⟨(.ptr 0 0 T_noonmarkref15_Zone), ()⟩, .junk, .junk, .v ⟨(.int .i64), z.1⟩, .junk, .junk, .junk, .junk, .junk, .junk, .junk, .junk, .junk, .junk, .junk, .junk, .junk, .junk, .junk, .junk, .junk, .junk, .junk, .junk, .junk, .junk, .junk, .junk, .junk, .junk, .junk, .junk, .junk, .junk, .junk, .junk, .junk, .junk, .junk, .junk, .junk, .junk, .junk, .junk, .junk, .junk, .junk, .junk, .junk, .junk, .junk, .junk, .junk, .junk, .junk, .junk, .junk, .junk, .junk, .junk, .junk, .junk, .junk, .junk, .junk, .junk, .junk, .junk, .junk, .junk, .junk, .junk, .junk, .junk, .junk, .junk, .junk, .junk, .junk, .junk, .junk, .junk, .junk, .junk, .v ⟨.bool, z.2.1⟩], [some (.one ⟨T_noonmarkref15_Zone, z.2.2⟩)]⟩
def noonmarklaw15_Light_p3 (_n : Nat) (_z : noonmarklaw15_Light_t3) : Option (Bool × Unit) :=
  some (true, ())
def noonmarklaw15_Light_s3 (n : Nat) (z : noonmarklaw15_Light_t3) : Option (Bool × Unit) := noonmarklaw15_Light_p3 n z
theorem noonmarklaw15_Light_e3 (n : Nat) (rc : Code → An → St → (Ex → St → Option (Bool × Unit)) → Option (Bool × Unit)) (z : noonmarklaw15_Light_t3) : codeR rc Try.prog noonmarklaw15_Light_sp n (cr (cr (cr (cr (bodyOf Try.f6))))) noonmarklaw15_Light_an.right.right.right.right (noonmarklaw15_Light_m3 z) (kFin Try.prog noonmarklaw15_Light_rs Try.f6) = noonmarklaw15_Light_p3 n z := by kernel_rfl
theorem noonmarklaw15_Light_q3 (n : Nat) (z : noonmarklaw15_Light_t3) : codeK Try.prog noonmarklaw15_Light_sp n (cr (cr (cr (cr (bodyOf Try.f6))))) noonmarklaw15_Light_an.right.right.right.right (noonmarklaw15_Light_m3 z) (kFin Try.prog noonmarklaw15_Light_rs Try.f6) = noonmarklaw15_Light_s3 n z := by
  rw [codeK_R, noonmarklaw15_Light_e3]
  rfl
def noonmarklaw15_Light_p6 (_n : Nat) (_k3 : noonmarklaw15_Light_t3 → Option (Bool × Unit)) (r5 : noonmarklaw15_Light_t5 → Option (Bool × Unit)) (z : noonmarklaw15_Light_t6) : Option (Bool × Unit) :=
  r5 ((w64 (z.1 + 1)), z.2)
def noonmarklaw15_Light_s6 (n : Nat) (k3 : noonmarklaw15_Light_t3 → Option (Bool × Unit)) (r5 : noonmarklaw15_Light_t5 → Option (Bool × Unit)) (z : noonmarklaw15_Light_t6) : Option (Bool × Unit) := noonmarklaw15_Light_p6 n k3 r5 z
theorem noonmarklaw15_Light_e6 (n : Nat) (k3 : St → Option (Bool × Unit)) (r5 : St → Option (Bool × Unit)) (rc : Code → An → St → (Ex → St → Option (Bool × Unit)) → Option (Bool × Unit)) (z : noonmarklaw15_Light_t6) : codeR rc Try.prog noonmarklaw15_Light_sp n (cr (cr (cl (cl (cr (cl (cr (cr (cr (bodyOf Try.f6)))))))))) noonmarklaw15_Light_an.right.right.right.left.right.left.left.right.right (noonmarklaw15_Light_m6 z) (kSeq r5 noonmarklaw15_Light_an.right.right.right.left.right.left (kBlk 2 (kSeq k3 noonmarklaw15_Light_an.right.right.right (kFin Try.prog noonmarklaw15_Light_rs Try.f6)))) = noonmarklaw15_Light_p6 n (fun y => k3 (noonmarklaw15_Light_m3 y)) (fun y => r5 (noonmarklaw15_Light_m5 y)) z := by kernel_rfl
theorem noonmarklaw15_Light_q6 (n : Nat) (k3 : St → Option (Bool × Unit)) (r5 : St → Option (Bool × Unit)) (z : noonmarklaw15_Light_t6) : codeK Try.prog noonmarklaw15_Light_sp n (cr (cr (cl (cl (cr (cl (cr (cr (cr (bodyOf Try.f6)))))))))) noonmarklaw15_Light_an.right.right.right.left.right.left.left.right.right (noonmarklaw15_Light_m6 z) (kSeq r5 noonmarklaw15_Light_an.right.right.right.left.right.left (kBlk 2 (kSeq k3 noonmarklaw15_Light_an.right.right.right (kFin Try.prog noonmarklaw15_Light_rs Try.f6)))) = noonmarklaw15_Light_s6 n (fun y => k3 (noonmarklaw15_Light_m3 y)) (fun y => r5 (noonmarklaw15_Light_m5 y)) z := by
  rw [codeK_R, noonmarklaw15_Light_e6]
  rfl
def noonmarklaw15_Light_p7 (_n : Nat) (_k3 : noonmarklaw15_Light_t3 → Option (Bool × Unit)) (_r5 : noonmarklaw15_Light_t5 → Option (Bool × Unit)) (k6 : noonmarklaw15_Light_t6 → Option (Bool × Unit)) (z : noonmarklaw15_Light_t7) : Option (Bool × Unit) :=
  bif z.2.1 then
    some (false, ())
  else
    k6 (z.1, z.2.2)
def noonmarklaw15_Light_s7 (n : Nat) (k3 : noonmarklaw15_Light_t3 → Option (Bool × Unit)) (r5 : noonmarklaw15_Light_t5 → Option (Bool × Unit)) (k6 : noonmarklaw15_Light_t6 → Option (Bool × Unit)) (z : noonmarklaw15_Light_t7) : Option (Bool × Unit) := noonmarklaw15_Light_p7 n k3 r5 k6 z
theorem noonmarklaw15_Light_e7 (n : Nat) (k3 : St → Option (Bool × Unit)) (r5 : St → Option (Bool × Unit)) (k6 : St → Option (Bool × Unit)) (rc : Code → An → St → (Ex → St → Option (Bool × Unit)) → Option (Bool × Unit)) (z : noonmarklaw15_Light_t7) : codeR rc Try.prog noonmarklaw15_Light_sp n (cr (cr (cl (cl (cr (cl (cl (cr (cl (cr (cr (cr (bodyOf Try.f6))))))))))))) noonmarklaw15_Light_an.right.right.right.left.right.left.left.right.left.left.right.right (noonmarklaw15_Light_m7 z) (kBlk 3 (kSeq k6 noonmarklaw15_Light_an.right.right.right.left.right.left.left.right (kSeq r5 noonmarklaw15_Light_an.right.right.right.left.right.left (kBlk 2 (kSeq k3 noonmarklaw15_Light_an.right.right.right (kFin Try.prog noonmarklaw15_Light_rs Try.f6)))))) = noonmarklaw15_Light_p7 n (fun y => k3 (noonmarklaw15_Light_m3 y)) (fun y => r5 (noonmarklaw15_Light_m5 y)) (fun y => k6 (noonmarklaw15_Light_m6 y)) z := by kernel_rfl
theorem noonmarklaw15_Light_q7 (n : Nat) (k3 : St → Option (Bool × Unit)) (r5 : St → Option (Bool × Unit)) (k6 : St → Option (Bool × Unit)) (z : noonmarklaw15_Light_t7) : codeK Try.prog noonmarklaw15_Light_sp n (cr (cr (cl (cl (cr (cl (cl (cr (cl (cr (cr (cr (bodyOf Try.f6))))))))))))) noonmarklaw15_Light_an.right.right.right.left.right.left.left.right.left.left.right.right (noonmarklaw15_Light_m7 z) (kBlk 3 (kSeq k6 noonmarklaw15_Light_an.right.right.right.left.right.left.left.right (kSeq r5 noonmarklaw15_Light_an.right.right.right.left.right.left (kBlk 2 (kSeq k3 noonmarklaw15_Light_an.right.right.right (kFin Try.prog noonmarklaw15_Light_rs Try.f6)))))) = noonmarklaw15_Light_s7 n (fun y => k3 (noonmarklaw15_Light_m3 y)) (fun y => r5 (noonmarklaw15_Light_m5 y)) (fun y => k6 (noonmarklaw15_Light_m6 y)) z := by
  rw [codeK_R, noonmarklaw15_Light_e7]
  rfl
def noonmarklaw15_Light_p5 (_n : Nat) (k3 : noonmarklaw15_Light_t3 → Option (Bool × Unit)) (_r5 : noonmarklaw15_Light_t5 → Option (Bool × Unit)) (k6 : noonmarklaw15_Light_t6 → Option (Bool × Unit)) (k7 : noonmarklaw15_Light_t7 → Option (Bool × Unit)) (z : noonmarklaw15_Light_t5) : Option (Bool × Unit) :=
  bif (decide (z.1 < (List.length z.2.1 : Int))) then
    bif decide (0 ≤ z.1) then
      ((z.2.1[Int.toNat z.1]?)).bind fun e4 =>
      bif (decide (e4.1 < (-100000))) then
        k7 (z.1, true, z.2)
      else
        bif (decide (e4.1 > 100000)) then
          k7 (z.1, true, z.2)
        else
          bif (decide (e4.2.2.1 < (-100000))) then
            k7 (z.1, true, z.2)
          else
            bif (decide (e4.2.2.1 > 100000)) then
              k7 (z.1, true, z.2)
            else
              bif (decide (e4.2.2.2.2.2.1.2.2.2.2.1.1 < (-700000))) then
                k7 (z.1, true, z.2)
              else
                bif (decide (e4.2.2.2.2.2.1.2.2.2.2.1.1 > 700000)) then
                  k7 (z.1, true, z.2)
                else
                  bif (decide ((ByteArray.size e4.2.2.2.1 : Int) > 100)) then
                    k7 (z.1, true, z.2)
                  else
                    k7 (z.1, (decide ((ByteArray.size e4.2.2.2.2.1 : Int) > 100)), z.2)
    else none
  else
    k3 ()
def noonmarklaw15_Light_s5 (n : Nat) (k3 : noonmarklaw15_Light_t3 → Option (Bool × Unit)) (r5 : noonmarklaw15_Light_t5 → Option (Bool × Unit)) (z : noonmarklaw15_Light_t5) : Option (Bool × Unit) := noonmarklaw15_Light_p5 n k3 r5 (noonmarklaw15_Light_s6 n k3 r5) (noonmarklaw15_Light_s7 n k3 r5 (noonmarklaw15_Light_s6 n k3 r5)) z
theorem noonmarklaw15_Light_e5 (n : Nat) (k3 : St → Option (Bool × Unit)) (r5 : St → Option (Bool × Unit)) (rc : Code → An → St → (Ex → St → Option (Bool × Unit)) → Option (Bool × Unit)) (z : noonmarklaw15_Light_t5) : codeR rc Try.prog noonmarklaw15_Light_sp n (cl (cl (cr (cl (cr (cr (cr (bodyOf Try.f6)))))))) noonmarklaw15_Light_an.right.right.right.left.right.left.left (noonmarklaw15_Light_m5 z) (kSeq r5 noonmarklaw15_Light_an.right.right.right.left.right.left (kBlk 2 (kSeq k3 noonmarklaw15_Light_an.right.right.right (kFin Try.prog noonmarklaw15_Light_rs Try.f6)))) = noonmarklaw15_Light_p5 n (fun y => k3 (noonmarklaw15_Light_m3 y)) (fun y => r5 (noonmarklaw15_Light_m5 y)) (fun y => rc (cr (cr (cl (cl (cr (cl (cr (cr (cr (bodyOf Try.f6)))))))))) noonmarklaw15_Light_an.right.right.right.left.right.left.left.right.right (noonmarklaw15_Light_m6 y) (kSeq r5 noonmarklaw15_Light_an.right.right.right.left.right.left (kBlk 2 (kSeq k3 noonmarklaw15_Light_an.right.right.right (kFin Try.prog noonmarklaw15_Light_rs Try.f6))))) (fun y => rc (cr (cr (cl (cl (cr (cl (cl (cr (cl (cr (cr (cr (bodyOf Try.f6))))))))))))) noonmarklaw15_Light_an.right.right.right.left.right.left.left.right.left.left.right.right (noonmarklaw15_Light_m7 y) (kBlk 3 (kSeq (fun st => rc (cr (cr (cl (cl (cr (cl (cr (cr (cr (bodyOf Try.f6)))))))))) noonmarklaw15_Light_an.right.right.right.left.right.left.left.right.right st (kSeq r5 noonmarklaw15_Light_an.right.right.right.left.right.left (kBlk 2 (kSeq k3 noonmarklaw15_Light_an.right.right.right (kFin Try.prog noonmarklaw15_Light_rs Try.f6))))) noonmarklaw15_Light_an.right.right.right.left.right.left.left.right (kSeq r5 noonmarklaw15_Light_an.right.right.right.left.right.left (kBlk 2 (kSeq k3 noonmarklaw15_Light_an.right.right.right (kFin Try.prog noonmarklaw15_Light_rs Try.f6))))))) z := by kernel_rfl
theorem noonmarklaw15_Light_q5 (n : Nat) (k3 : St → Option (Bool × Unit)) (r5 : St → Option (Bool × Unit)) (z : noonmarklaw15_Light_t5) : codeK Try.prog noonmarklaw15_Light_sp n (cl (cl (cr (cl (cr (cr (cr (bodyOf Try.f6)))))))) noonmarklaw15_Light_an.right.right.right.left.right.left.left (noonmarklaw15_Light_m5 z) (kSeq r5 noonmarklaw15_Light_an.right.right.right.left.right.left (kBlk 2 (kSeq k3 noonmarklaw15_Light_an.right.right.right (kFin Try.prog noonmarklaw15_Light_rs Try.f6)))) = noonmarklaw15_Light_s5 n (fun y => k3 (noonmarklaw15_Light_m3 y)) (fun y => r5 (noonmarklaw15_Light_m5 y)) z := by
  have h6 : (fun y => codeK Try.prog noonmarklaw15_Light_sp n (cr (cr (cl (cl (cr (cl (cr (cr (cr (bodyOf Try.f6)))))))))) noonmarklaw15_Light_an.right.right.right.left.right.left.left.right.right (noonmarklaw15_Light_m6 y) (kSeq r5 noonmarklaw15_Light_an.right.right.right.left.right.left (kBlk 2 (kSeq k3 noonmarklaw15_Light_an.right.right.right (kFin Try.prog noonmarklaw15_Light_rs Try.f6))))) = (noonmarklaw15_Light_s6 n (fun y => k3 (noonmarklaw15_Light_m3 y)) (fun y => r5 (noonmarklaw15_Light_m5 y))) := funext fun y => by
    have := noonmarklaw15_Light_q6 n k3 r5 y
    exact this
  have h7 : (fun y => codeK Try.prog noonmarklaw15_Light_sp n (cr (cr (cl (cl (cr (cl (cl (cr (cl (cr (cr (cr (bodyOf Try.f6))))))))))))) noonmarklaw15_Light_an.right.right.right.left.right.left.left.right.left.left.right.right (noonmarklaw15_Light_m7 y) (kBlk 3 (kSeq (fun st => codeK Try.prog noonmarklaw15_Light_sp n (cr (cr (cl (cl (cr (cl (cr (cr (cr (bodyOf Try.f6)))))))))) noonmarklaw15_Light_an.right.right.right.left.right.left.left.right.right st (kSeq r5 noonmarklaw15_Light_an.right.right.right.left.right.left (kBlk 2 (kSeq k3 noonmarklaw15_Light_an.right.right.right (kFin Try.prog noonmarklaw15_Light_rs Try.f6))))) noonmarklaw15_Light_an.right.right.right.left.right.left.left.right (kSeq r5 noonmarklaw15_Light_an.right.right.right.left.right.left (kBlk 2 (kSeq k3 noonmarklaw15_Light_an.right.right.right (kFin Try.prog noonmarklaw15_Light_rs Try.f6))))))) = (noonmarklaw15_Light_s7 n (fun y => k3 (noonmarklaw15_Light_m3 y)) (fun y => r5 (noonmarklaw15_Light_m5 y)) (noonmarklaw15_Light_s6 n (fun y => k3 (noonmarklaw15_Light_m3 y)) (fun y => r5 (noonmarklaw15_Light_m5 y)))) := funext fun y => by
    have := noonmarklaw15_Light_q7 n k3 r5 (fun st => codeK Try.prog noonmarklaw15_Light_sp n (cr (cr (cl (cl (cr (cl (cr (cr (cr (bodyOf Try.f6)))))))))) noonmarklaw15_Light_an.right.right.right.left.right.left.left.right.right st (kSeq r5 noonmarklaw15_Light_an.right.right.right.left.right.left (kBlk 2 (kSeq k3 noonmarklaw15_Light_an.right.right.right (kFin Try.prog noonmarklaw15_Light_rs Try.f6))))) y
    rw [h6] at this; exact this
  rw [codeK_R, noonmarklaw15_Light_e5]
  rw [h6]
  rw [h7]
  rfl
def noonmarklaw15_Light_s4 (n : Nat) (k3 : noonmarklaw15_Light_t3 → Option (Bool × Unit)) (z : noonmarklaw15_Light_t4) : Option (Bool × Unit) :=
  rounds (fun r5 x' => noonmarklaw15_Light_s5 n k3 r5 x') n (z.1, z.2)
theorem noonmarklaw15_Light_q4 (n : Nat) (k3 : St → Option (Bool × Unit)) (z : noonmarklaw15_Light_t4) : codeK Try.prog noonmarklaw15_Light_sp n (cr (cl (cr (cr (cr (bodyOf Try.f6)))))) noonmarklaw15_Light_an.right.right.right.left.right (noonmarklaw15_Light_m4 z) (kSeq k3 noonmarklaw15_Light_an.right.right.right (kFin Try.prog noonmarklaw15_Light_rs Try.f6)) = noonmarklaw15_Light_s4 n (fun y => k3 (noonmarklaw15_Light_m3 y)) z :=
  Eq.trans (b := rounds (fun r5 st => codeK Try.prog noonmarklaw15_Light_sp n (cl (cl (cr (cl (cr (cr (cr (bodyOf Try.f6)))))))) noonmarklaw15_Light_an.right.right.right.left.right.left.left st (kSeq r5 noonmarklaw15_Light_an.right.right.right.left.right.left (kBlk 2 (kSeq k3 noonmarklaw15_Light_an.right.right.right (kFin Try.prog noonmarklaw15_Light_rs Try.f6))))) n (noonmarklaw15_Light_m5 (z.1, z.2))) (by kernel_rfl) (rounds_mk noonmarklaw15_Light_m5 (fun r5 x' => by
    have := (noonmarklaw15_Light_q5 n k3 r5 x')
    exact this) n _)
def noonmarklaw15_Light_p0 (_n : Nat) (k3 : noonmarklaw15_Light_t3 → Option (Bool × Unit)) (k4 : noonmarklaw15_Light_t4 → Option (Bool × Unit)) (z : noonmarklaw15_Light_t0) : Option (Bool × Unit) :=
  k4 ((0 : Int), z)
def noonmarklaw15_Light_s0 (n : Nat) (z : noonmarklaw15_Light_t0) : Option (Bool × Unit) := noonmarklaw15_Light_p0 n (noonmarklaw15_Light_s3 n) (noonmarklaw15_Light_s4 n (noonmarklaw15_Light_s3 n)) z
theorem noonmarklaw15_Light_e0 (n : Nat) (rc : Code → An → St → (Ex → St → Option (Bool × Unit)) → Option (Bool × Unit)) (z : noonmarklaw15_Light_t0) : codeR rc Try.prog noonmarklaw15_Light_sp n (cr (cr (cr (bodyOf Try.f6)))) noonmarklaw15_Light_an.right.right.right (noonmarklaw15_Light_m0 z) (kFin Try.prog noonmarklaw15_Light_rs Try.f6) = noonmarklaw15_Light_p0 n (fun y => rc (cr (cr (cr (cr (bodyOf Try.f6))))) noonmarklaw15_Light_an.right.right.right.right (noonmarklaw15_Light_m3 y) (kFin Try.prog noonmarklaw15_Light_rs Try.f6)) (fun y => rc (cr (cl (cr (cr (cr (bodyOf Try.f6)))))) noonmarklaw15_Light_an.right.right.right.left.right (noonmarklaw15_Light_m4 y) (kSeq (fun st => rc (cr (cr (cr (cr (bodyOf Try.f6))))) noonmarklaw15_Light_an.right.right.right.right st (kFin Try.prog noonmarklaw15_Light_rs Try.f6)) noonmarklaw15_Light_an.right.right.right (kFin Try.prog noonmarklaw15_Light_rs Try.f6))) z := by kernel_rfl
theorem noonmarklaw15_Light_q0 (n : Nat) (z : noonmarklaw15_Light_t0) : codeK Try.prog noonmarklaw15_Light_sp n (cr (cr (cr (bodyOf Try.f6)))) noonmarklaw15_Light_an.right.right.right (noonmarklaw15_Light_m0 z) (kFin Try.prog noonmarklaw15_Light_rs Try.f6) = noonmarklaw15_Light_s0 n z := by
  have h3 : (fun y => codeK Try.prog noonmarklaw15_Light_sp n (cr (cr (cr (cr (bodyOf Try.f6))))) noonmarklaw15_Light_an.right.right.right.right (noonmarklaw15_Light_m3 y) (kFin Try.prog noonmarklaw15_Light_rs Try.f6)) = (noonmarklaw15_Light_s3 n) := funext fun y => by
    have := noonmarklaw15_Light_q3 n  y
    exact this
  have h4 : (fun y => codeK Try.prog noonmarklaw15_Light_sp n (cr (cl (cr (cr (cr (bodyOf Try.f6)))))) noonmarklaw15_Light_an.right.right.right.left.right (noonmarklaw15_Light_m4 y) (kSeq (fun st => codeK Try.prog noonmarklaw15_Light_sp n (cr (cr (cr (cr (bodyOf Try.f6))))) noonmarklaw15_Light_an.right.right.right.right st (kFin Try.prog noonmarklaw15_Light_rs Try.f6)) noonmarklaw15_Light_an.right.right.right (kFin Try.prog noonmarklaw15_Light_rs Try.f6))) = (noonmarklaw15_Light_s4 n (noonmarklaw15_Light_s3 n)) := funext fun y => by
    have := noonmarklaw15_Light_q4 n (fun st => codeK Try.prog noonmarklaw15_Light_sp n (cr (cr (cr (cr (bodyOf Try.f6))))) noonmarklaw15_Light_an.right.right.right.right st (kFin Try.prog noonmarklaw15_Light_rs Try.f6)) y
    rw [h3] at this; exact this
  rw [codeK_R, noonmarklaw15_Light_e0]
  rw [h3]
  rw [h4]
  rfl
def noonmarklaw15_Light_p2 (n : Nat) (k0 : noonmarklaw15_Light_t0 → Option (Bool × Unit)) (r2 : noonmarklaw15_Light_t2 → Option (Bool × Unit)) (z : noonmarklaw15_Light_t2) : Option (Bool × Unit) :=
  bif (decide (z.1 < (List.length z.2.2.1 : Int))) then
    bif decide (0 ≤ z.1) then
      ((z.2.2.1[Int.toNat z.1]?)).bind fun e1 =>
      ((noonmarklaw14_Light n (e1, ((6 : Int), ())))).bind fun v2 =>
      bif (!v2.1) then
        some (false, ())
      else
        r2 ((w64 (z.1 + 1)), z.2)
    else none
  else
    k0 z.2
def noonmarklaw15_Light_s2 (n : Nat) (k0 : noonmarklaw15_Light_t0 → Option (Bool × Unit)) (r2 : noonmarklaw15_Light_t2 → Option (Bool × Unit)) (z : noonmarklaw15_Light_t2) : Option (Bool × Unit) := noonmarklaw15_Light_p2 n k0 r2 z
theorem noonmarklaw15_Light_e2 (n : Nat) (k0 : St → Option (Bool × Unit)) (r2 : St → Option (Bool × Unit)) (rc : Code → An → St → (Ex → St → Option (Bool × Unit)) → Option (Bool × Unit)) (z : noonmarklaw15_Light_t2) : codeR rc Try.prog noonmarklaw15_Light_sp n (cl (cl (cr (cl (cr (cr (bodyOf Try.f6))))))) noonmarklaw15_Light_an.right.right.left.right.left.left (noonmarklaw15_Light_m2 z) (kSeq r2 noonmarklaw15_Light_an.right.right.left.right.left (kBlk 0 (kSeq k0 noonmarklaw15_Light_an.right.right (kFin Try.prog noonmarklaw15_Light_rs Try.f6)))) = noonmarklaw15_Light_p2 n (fun y => k0 (noonmarklaw15_Light_m0 y)) (fun y => r2 (noonmarklaw15_Light_m2 y)) z := by kernel_rfl
theorem noonmarklaw15_Light_q2 (n : Nat) (k0 : St → Option (Bool × Unit)) (r2 : St → Option (Bool × Unit)) (z : noonmarklaw15_Light_t2) : codeK Try.prog noonmarklaw15_Light_sp n (cl (cl (cr (cl (cr (cr (bodyOf Try.f6))))))) noonmarklaw15_Light_an.right.right.left.right.left.left (noonmarklaw15_Light_m2 z) (kSeq r2 noonmarklaw15_Light_an.right.right.left.right.left (kBlk 0 (kSeq k0 noonmarklaw15_Light_an.right.right (kFin Try.prog noonmarklaw15_Light_rs Try.f6)))) = noonmarklaw15_Light_s2 n (fun y => k0 (noonmarklaw15_Light_m0 y)) (fun y => r2 (noonmarklaw15_Light_m2 y)) z := by
  rw [codeK_R, noonmarklaw15_Light_e2]
  rfl
def noonmarklaw15_Light_s1 (n : Nat) (k0 : noonmarklaw15_Light_t0 → Option (Bool × Unit)) (z : noonmarklaw15_Light_t1) : Option (Bool × Unit) :=
  rounds (fun r2 x' => noonmarklaw15_Light_s2 n k0 r2 x') n (z.1, z.2)
theorem noonmarklaw15_Light_q1 (n : Nat) (k0 : St → Option (Bool × Unit)) (z : noonmarklaw15_Light_t1) : codeK Try.prog noonmarklaw15_Light_sp n (cr (cl (cr (cr (bodyOf Try.f6))))) noonmarklaw15_Light_an.right.right.left.right (noonmarklaw15_Light_m1 z) (kSeq k0 noonmarklaw15_Light_an.right.right (kFin Try.prog noonmarklaw15_Light_rs Try.f6)) = noonmarklaw15_Light_s1 n (fun y => k0 (noonmarklaw15_Light_m0 y)) z :=
  Eq.trans (b := rounds (fun r2 st => codeK Try.prog noonmarklaw15_Light_sp n (cl (cl (cr (cl (cr (cr (bodyOf Try.f6))))))) noonmarklaw15_Light_an.right.right.left.right.left.left st (kSeq r2 noonmarklaw15_Light_an.right.right.left.right.left (kBlk 0 (kSeq k0 noonmarklaw15_Light_an.right.right (kFin Try.prog noonmarklaw15_Light_rs Try.f6))))) n (noonmarklaw15_Light_m2 (z.1, z.2))) (by kernel_rfl) (rounds_mk noonmarklaw15_Light_m2 (fun r2 x' => by
    have := (noonmarklaw15_Light_q2 n k0 r2 x')
    exact this) n _)
def noonmarklaw15_Light_px (_n : Nat) (k0 : noonmarklaw15_Light_t0 → Option (Bool × Unit)) (k1 : noonmarklaw15_Light_t1 → Option (Bool × Unit)) (x : (D_noonmarkref15_Zone × Unit)) : Option (Bool × Unit) :=
  bif (decide ((List.length x.1.1 : Int) > 10)) then
    some (false, ())
  else
    bif (decide ((List.length x.1.2.1 : Int) > 10)) then
      some (false, ())
    else
      k1 ((0 : Int), x.1)
def noonmarklaw15_Light (n : Nat) (x : (D_noonmarkref15_Zone × Unit)) : Option (Bool × Unit) := noonmarklaw15_Light_px n (noonmarklaw15_Light_s0 n) (noonmarklaw15_Light_s1 n (noonmarklaw15_Light_s0 n)) x
theorem noonmarklaw15_Light_ex (n : Nat) (rc : Code → An → St → (Ex → St → Option (Bool × Unit)) → Option (Bool × Unit)) (x : (D_noonmarkref15_Zone × Unit)) : codeR rc Try.prog noonmarklaw15_Light_sp n (bodyOf Try.f6) noonmarklaw15_Light_an (start noonmarklaw15_Light_ps x (Func.ntmps Try.f6)) (kFin Try.prog noonmarklaw15_Light_rs Try.f6) = noonmarklaw15_Light_px n (fun y => rc (cr (cr (cr (bodyOf Try.f6)))) noonmarklaw15_Light_an.right.right.right (noonmarklaw15_Light_m0 y) (kFin Try.prog noonmarklaw15_Light_rs Try.f6)) (fun y => rc (cr (cl (cr (cr (bodyOf Try.f6))))) noonmarklaw15_Light_an.right.right.left.right (noonmarklaw15_Light_m1 y) (kSeq (fun st => rc (cr (cr (cr (bodyOf Try.f6)))) noonmarklaw15_Light_an.right.right.right st (kFin Try.prog noonmarklaw15_Light_rs Try.f6)) noonmarklaw15_Light_an.right.right (kFin Try.prog noonmarklaw15_Light_rs Try.f6))) x := by kernel_rfl
theorem noonmarklaw15_Light_qx (n : Nat) (x : (D_noonmarkref15_Zone × Unit)) : codeK Try.prog noonmarklaw15_Light_sp n (bodyOf Try.f6) noonmarklaw15_Light_an (start noonmarklaw15_Light_ps x (Func.ntmps Try.f6)) (kFin Try.prog noonmarklaw15_Light_rs Try.f6) = noonmarklaw15_Light n x := by
  have h0 : (fun y => codeK Try.prog noonmarklaw15_Light_sp n (cr (cr (cr (bodyOf Try.f6)))) noonmarklaw15_Light_an.right.right.right (noonmarklaw15_Light_m0 y) (kFin Try.prog noonmarklaw15_Light_rs Try.f6)) = (noonmarklaw15_Light_s0 n) := funext fun y => by
    have := noonmarklaw15_Light_q0 n  y
    exact this
  have h1 : (fun y => codeK Try.prog noonmarklaw15_Light_sp n (cr (cl (cr (cr (bodyOf Try.f6))))) noonmarklaw15_Light_an.right.right.left.right (noonmarklaw15_Light_m1 y) (kSeq (fun st => codeK Try.prog noonmarklaw15_Light_sp n (cr (cr (cr (bodyOf Try.f6)))) noonmarklaw15_Light_an.right.right.right st (kFin Try.prog noonmarklaw15_Light_rs Try.f6)) noonmarklaw15_Light_an.right.right (kFin Try.prog noonmarklaw15_Light_rs Try.f6))) = (noonmarklaw15_Light_s1 n (noonmarklaw15_Light_s0 n)) := funext fun y => by
    have := noonmarklaw15_Light_q1 n (fun st => codeK Try.prog noonmarklaw15_Light_sp n (cr (cr (cr (bodyOf Try.f6)))) noonmarklaw15_Light_an.right.right.right st (kFin Try.prog noonmarklaw15_Light_rs Try.f6)) y
    rw [h0] at this; exact this
  rw [codeK_R, noonmarklaw15_Light_ex]
  rw [h0]
  rw [h1]
  rfl
def noonmarklaw15_Light_spec : Sp := ⟨noonmarklaw15_Light_ps, noonmarklaw15_Light_rs, noonmarklaw15_Light⟩
theorem noonmarklaw15_Light_ok : SoundX Try.prog CX 6 (.f noonmarklaw15_Light_spec) := sound_of (look_cons noonmarklaw14_Light_ok look_nil) Try.func6 (by kernel_rfl) rfl noonmarklaw15_Light_an noonmarklaw15_Light_spec rfl rfl noonmarklaw15_Light_qx

/-! ### noonmark/civil.Clock -/
abbrev civil_Clock_ps : Ty := (.pair (.int .i64) .unit)
abbrev civil_Clock_rs : Ty := T_api_At
def civil_Clock_sp : Specs := look []
def civil_Clock_an : An := (.s .o (.s .o (.k [] [0,2] 0 .o .o)))
abbrev civil_Clock_t0 := Int × Int
def civil_Clock_m0 (z : civil_Clock_t0) : St := ⟨[.v ⟨(.int .i64), z.1⟩, .junk, .v ⟨(.int .i64), z.2⟩, .junk, .junk, .junk, .junk, .junk, .junk, .junk, .junk, .junk, .junk, .junk, .junk, .junk], []⟩
def civil_Clock_p0 (_n : Nat) (z : civil_Clock_t0) : Option D_api_At :=
  some (z.2, ((w64 (z.1 - (w64 (z.2 * 86400)))), ()))
def civil_Clock_s0 (n : Nat) (z : civil_Clock_t0) : Option D_api_At := civil_Clock_p0 n z
theorem civil_Clock_e0 (n : Nat) (rc : Code → An → St → (Ex → St → Option D_api_At) → Option D_api_At) (z : civil_Clock_t0) : codeR rc Try.prog civil_Clock_sp n (cr (cr (cr (bodyOf Try.f22)))) civil_Clock_an.right.right.right (civil_Clock_m0 z) (kFin Try.prog civil_Clock_rs Try.f22) = civil_Clock_p0 n z := by kernel_rfl
theorem civil_Clock_q0 (n : Nat) (z : civil_Clock_t0) : codeK Try.prog civil_Clock_sp n (cr (cr (cr (bodyOf Try.f22)))) civil_Clock_an.right.right.right (civil_Clock_m0 z) (kFin Try.prog civil_Clock_rs Try.f22) = civil_Clock_s0 n z := by
  rw [codeK_R, civil_Clock_e0]
  rfl
def civil_Clock_px (_n : Nat) (k0 : civil_Clock_t0 → Option D_api_At) (x : (Int × Unit)) : Option D_api_At :=
  let t1 := w64 (Int.tdiv x.1 (86400 : Int))
  bif (decide ((Int.tmod x.1 (86400 : Int)) < 0)) then
    k0 (x.1, (w64 (t1 - 1)))
  else
    k0 (x.1, t1)
def civil_Clock (n : Nat) (x : (Int × Unit)) : Option D_api_At := civil_Clock_px n (civil_Clock_s0 n) x
theorem civil_Clock_ex (n : Nat) (rc : Code → An → St → (Ex → St → Option D_api_At) → Option D_api_At) (x : (Int × Unit)) : codeR rc Try.prog civil_Clock_sp n (bodyOf Try.f22) civil_Clock_an (start civil_Clock_ps x (Func.ntmps Try.f22)) (kFin Try.prog civil_Clock_rs Try.f22) = civil_Clock_px n (fun y => rc (cr (cr (cr (bodyOf Try.f22)))) civil_Clock_an.right.right.right (civil_Clock_m0 y) (kFin Try.prog civil_Clock_rs Try.f22)) x := by kernel_rfl
theorem civil_Clock_qx (n : Nat) (x : (Int × Unit)) : codeK Try.prog civil_Clock_sp n (bodyOf Try.f22) civil_Clock_an (start civil_Clock_ps x (Func.ntmps Try.f22)) (kFin Try.prog civil_Clock_rs Try.f22) = civil_Clock n x := by
  have h0 : (fun y => codeK Try.prog civil_Clock_sp n (cr (cr (cr (bodyOf Try.f22)))) civil_Clock_an.right.right.right (civil_Clock_m0 y) (kFin Try.prog civil_Clock_rs Try.f22)) = (civil_Clock_s0 n) := funext fun y => by
    have := civil_Clock_q0 n  y
    exact this
  rw [codeK_R, civil_Clock_ex]
  rw [h0]
  rfl
def civil_Clock_spec : Sp := ⟨civil_Clock_ps, civil_Clock_rs, civil_Clock⟩
theorem civil_Clock_ok : SoundX Try.prog CX 22 (.f civil_Clock_spec) := sound_of look_nil Try.func22 (by kernel_rfl) rfl civil_Clock_an civil_Clock_spec rfl rfl civil_Clock_qx

/-! ### noonmark/civil.Date -/
abbrev civil_Date_ps : Ty := (.pair (.int .i64) .unit)
abbrev civil_Date_rs : Ty := T_expand_Fire
def civil_Date_sp : Specs := look [(35, .f civil_number_spec)]
def civil_Date_an : An := (.s .o (.s .o (.s .o (.s .o (.s .o (.s .o (.s .o (.s .o (.s .o (.s .o (.k [] [2,3,4] 0 .o .o)))))))))))
abbrev civil_Date_t0 := Int × Int × Int
def civil_Date_m0 (z : civil_Date_t0) : St := ⟨[.junk, .junk, .v ⟨(.int .i64), z.1⟩, .v ⟨(.int .i64), z.2.1⟩, .v ⟨(.int .i64), z.2.2⟩, .junk, .junk, .junk, .junk, .junk, .junk, .junk, .junk, .junk, .junk, .junk, .junk, .junk, .junk, .junk, .junk, .junk, .junk, .junk, .junk, .junk, .junk, .junk, .junk, .junk, .junk, .junk, .junk, .junk, .junk, .junk, .junk, .junk, .junk, .junk, .junk, .junk, .junk, .junk, .junk, .junk, .junk, .junk, .junk, .junk, .junk, .junk, .junk, .junk, .junk, .junk, .junk, .junk, .junk, .junk, .junk, .junk, .junk, .junk, .junk, .junk, .junk, .junk, .junk, .junk, .junk, .junk, .junk, .junk, .junk, .junk], []⟩
def civil_Date_p0 (_n : Nat) (z : civil_Date_t0) : Option D_expand_Fire :=
  some (z.1, (z.2.1, (z.2.2, ((0 : Int), ()))))
def civil_Date_s0 (n : Nat) (z : civil_Date_t0) : Option D_expand_Fire := civil_Date_p0 n z
theorem civil_Date_e0 (n : Nat) (rc : Code → An → St → (Ex → St → Option D_expand_Fire) → Option D_expand_Fire) (z : civil_Date_t0) : codeR rc Try.prog civil_Date_sp n (cr (cr (cr (cr (cr (cr (cr (cr (cr (cr (cr (bodyOf Try.f23)))))))))))) civil_Date_an.right.right.right.right.right.right.right.right.right.right.right (civil_Date_m0 z) (kFin Try.prog civil_Date_rs Try.f23) = civil_Date_p0 n z := by kernel_rfl
theorem civil_Date_q0 (n : Nat) (z : civil_Date_t0) : codeK Try.prog civil_Date_sp n (cr (cr (cr (cr (cr (cr (cr (cr (cr (cr (cr (bodyOf Try.f23)))))))))))) civil_Date_an.right.right.right.right.right.right.right.right.right.right.right (civil_Date_m0 z) (kFin Try.prog civil_Date_rs Try.f23) = civil_Date_s0 n z := by
  rw [codeK_R, civil_Date_e0]
  rfl
def civil_Date_px (n : Nat) (k0 : civil_Date_t0 → Option D_expand_Fire) (x : (Int × Unit)) : Option D_expand_Fire :=
  ((civil_number n ((-9999 : Int), ((1 : Int), ((1 : Int), ()))))).bind fun v1 =>
  bif (decide (x.1 < v1.1)) then
    some ((0 : Int), ((0 : Int), ((0 : Int), ((2 : Int), ()))))
  else
    ((civil_number n ((9999 : Int), ((12 : Int), ((31 : Int), ()))))).bind fun v2 =>
    bif (decide (x.1 > v2.1)) then
      some ((0 : Int), ((0 : Int), ((0 : Int), ((2 : Int), ()))))
    else
      let t3 := w64 (x.1 + 5102378)
      let t4 := w64 (Int.tdiv t3 (146097 : Int))
      let t6 := w64 (t3 - (w64 (t4 * 146097)))
      let t13 := w64 (Int.tdiv (w64 ((w64 ((w64 (t6 - (w64 (Int.tdiv t6 (1460 : Int))))) + (w64 (Int.tdiv t6 (36524 : Int))))) - (w64 (Int.tdiv t6 (146096 : Int))))) (365 : Int))
      let t19 := w64 (t6 - (w64 ((w64 ((w64 (365 * t13)) + (w64 (Int.tdiv t13 (4 : Int))))) - (w64 (Int.tdiv t13 (100 : Int))))))
      let t22 := w64 (Int.tdiv (w64 ((w64 (5 * t19)) + 2)) (153 : Int))
      let t27 := w64 ((w64 (t19 - (w64 (Int.tdiv (w64 ((w64 (153 * t22)) + 2)) (5 : Int))))) + 1)
      let t30 := w64 ((w64 (t13 + (w64 (t4 * 400)))) - 12000)
      let t31 := w64 (t22 + 3)
      bif (decide (t31 > 12)) then
        k0 ((w64 (t30 + 1)), (w64 (t31 - 12)), t27)
      else
        k0 (t30, t31, t27)
def civil_Date (n : Nat) (x : (Int × Unit)) : Option D_expand_Fire := civil_Date_px n (civil_Date_s0 n) x
theorem civil_Date_ex (n : Nat) (rc : Code → An → St → (Ex → St → Option D_expand_Fire) → Option D_expand_Fire) (x : (Int × Unit)) : codeR rc Try.prog civil_Date_sp n (bodyOf Try.f23) civil_Date_an (start civil_Date_ps x (Func.ntmps Try.f23)) (kFin Try.prog civil_Date_rs Try.f23) = civil_Date_px n (fun y => rc (cr (cr (cr (cr (cr (cr (cr (cr (cr (cr (cr (bodyOf Try.f23)))))))))))) civil_Date_an.right.right.right.right.right.right.right.right.right.right.right (civil_Date_m0 y) (kFin Try.prog civil_Date_rs Try.f23)) x := by kernel_rfl
theorem civil_Date_qx (n : Nat) (x : (Int × Unit)) : codeK Try.prog civil_Date_sp n (bodyOf Try.f23) civil_Date_an (start civil_Date_ps x (Func.ntmps Try.f23)) (kFin Try.prog civil_Date_rs Try.f23) = civil_Date n x := by
  have h0 : (fun y => codeK Try.prog civil_Date_sp n (cr (cr (cr (cr (cr (cr (cr (cr (cr (cr (cr (bodyOf Try.f23)))))))))))) civil_Date_an.right.right.right.right.right.right.right.right.right.right.right (civil_Date_m0 y) (kFin Try.prog civil_Date_rs Try.f23)) = (civil_Date_s0 n) := funext fun y => by
    have := civil_Date_q0 n  y
    exact this
  rw [codeK_R, civil_Date_ex]
  rw [h0]
  rfl
def civil_Date_spec : Sp := ⟨civil_Date_ps, civil_Date_rs, civil_Date⟩
theorem civil_Date_ok : SoundX Try.prog CX 23 (.f civil_Date_spec) := sound_of (look_cons civil_number_ok look_nil) Try.func23 (by kernel_rfl) rfl civil_Date_an civil_Date_spec rfl rfl civil_Date_qx

/-! ### noonmark/den.year -/
abbrev den_year_ps : Ty := (.pair (.int .i64) .unit)
abbrev den_year_rs : Ty := (.pair (.int .i64) (.pair .bool .unit))
def den_year_sp : Specs := look [(22, .f civil_Clock_spec), (23, .f civil_Date_spec)]
def den_year_an : An := .o
def den_year_px (n : Nat) (x : (Int × Unit)) : Option (Int × (Bool × Unit)) :=
  ((civil_Clock n (x.1, ()))).bind fun v1 =>
  ((civil_Date n (v1.1, ()))).bind fun v2 =>
  bif (v2.2.2.2.1 == 0) then
    some (v2.1, ((decide ((imax v2.1 (w64 (0 - v2.1))) ≤ 9998)), ()))
  else
    some (v2.1, (false, ()))
def den_year (n : Nat) (x : (Int × Unit)) : Option (Int × (Bool × Unit)) := den_year_px n x
theorem den_year_ex (n : Nat) (rc : Code → An → St → (Ex → St → Option (Int × (Bool × Unit))) → Option (Int × (Bool × Unit))) (x : (Int × Unit)) : codeR rc Try.prog den_year_sp n (bodyOf Try.f14) den_year_an (start den_year_ps x (Func.ntmps Try.f14)) (kFin Try.prog den_year_rs Try.f14) = den_year_px n x := by kernel_rfl
theorem den_year_qx (n : Nat) (x : (Int × Unit)) : codeK Try.prog den_year_sp n (bodyOf Try.f14) den_year_an (start den_year_ps x (Func.ntmps Try.f14)) (kFin Try.prog den_year_rs Try.f14) = den_year n x := by
  rw [codeK_R, den_year_ex]
  rfl
def den_year_spec : Sp := ⟨den_year_ps, den_year_rs, den_year⟩
theorem den_year_ok : SoundX Try.prog CX 14 (.f den_year_spec) := sound_of (look_cons civil_Clock_ok (look_cons civil_Date_ok look_nil)) Try.func14 (by kernel_rfl) rfl den_year_an den_year_spec rfl rfl den_year_qx

/-! ### noonmark/den.Saving -/
abbrev den_Saving_ps : Ty := (.pair (.list T_api_Rule) T_api_At)
abbrev den_Saving_rs : Ty := (.pair (.int .i64) (.pair .str .unit))
def den_Saving_sp : Specs := look [(14, .f den_year_spec), (36, .f expand_Letter_spec), (37, .f expand_Span_spec), (38, .o expand_From_spec), (39, .f expand_Instant_spec)]
def den_Saving_an : An := (.s .o (.s .o (.s .o (.s .o (.s .o (.k [] [0,1,2,10,13] 0 .o (.k [] [0] 0 (.k [] [0,1,2,10,14] 0 .o (.b (.l [] [0,1,2,10,14] 0 (.s .o (.k [] [0,1,2,10,14] 0 (.b (.s .o (.k [] [0,1,2,10,14,15,16] 1 .o (.b (.l [] [0,1,2,10,14,15,16] 1 .o))))) .o))))) .o)))))))
abbrev den_Saving_t0 := (List D_api_Rule) × Int × Int × Int × Int
def den_Saving_m0 (z : den_Saving_t0) : St := ⟨[.v ⟨(.list T_api_Rule), z.1⟩, .v ⟨(.int .i64), z.2.1⟩, .v ⟨(.int .i64), z.2.2.1⟩, .junk, .junk, .junk, .junk, .junk, .junk, .junk, .v ⟨(.int .i64), z.2.2.2.1⟩, .junk, .junk, .v ⟨(.int .i64), z.2.2.2.2⟩, .junk, .junk, .junk, .junk, .junk, .junk, .junk, .junk, .junk, .junk, .junk, .junk, .junk, .junk, .junk, .junk, .junk, .junk, .junk, .junk, .junk, .junk, .junk, .junk, .junk, .junk, .junk, .junk, .junk, .junk, .junk, .junk, .junk, .junk, .junk, .junk, .junk, .junk, .junk, .junk, .junk, .junk, .junk, .junk, .junk, .junk, .junk, .junk, .junk, .junk, .junk, .junk, .junk, .junk, .junk, .junk, .junk, .junk, .junk, .junk, .junk, .junk, .junk, .junk, .junk, .junk, .junk, .junk, .junk, .junk, .junk, .junk, .junk], []⟩
abbrev den_Saving_t1 := (List D_api_Rule)
def den_Saving_m1 (z : den_Saving_t1) : St := ⟨[.v ⟨(.list T_api_Rule), z⟩, .junk, .junk, .junk, .junk, .junk, .junk, .junk, .junk, .junk, .junk, .junk, .junk, .junk, .junk, .junk, .junk, .junk, .junk, .junk, .junk, .junk, .junk, .junk, .junk, .junk, .junk, .junk, .junk, .junk, .junk, .junk, .junk, .junk, .junk, .junk, .junk, .junk, .junk, .junk, .junk, .junk, .junk, .junk, .junk, .junk, .junk, .junk, .junk, .junk, .junk, .junk, .junk, .junk, .junk, .junk, .junk, .junk, .junk, .junk, .junk, .junk, .junk, .junk, .junk, .junk, .junk, .junk, .junk, .junk, .junk, .junk, .junk, .junk, .junk, .junk, .junk, .junk, .junk, .junk, .junk, .junk, .junk, .junk, .junk, .junk, .junk], []⟩
abbrev den_Saving_t2 := (List D_api_Rule) × Int × Int × Int × Int
def den_Saving_m2 (z : den_Saving_t2) : St := ⟨[.v ⟨(.list T_api_Rule), z.1⟩, .v ⟨(.int .i64), z.2.1⟩, .v ⟨(.int .i64), z.2.2.1⟩, .junk, .junk, .junk, .junk, .junk, .junk, .junk, .v ⟨(.int .i64), z.2.2.2.1⟩, .junk, .junk, .junk, .v ⟨(.int .i64), z.2.2.2.2⟩, .junk, .junk, .junk, .junk, .junk, .junk, .junk, .junk, .junk, .junk, .junk, .junk, .junk, .junk, .junk, .junk, .junk, .junk, .junk, .junk, .junk, .junk, .junk, .junk, .junk, .junk, .junk, .junk, .junk, .junk, .junk, .junk, .junk, .junk, .junk, .junk, .junk, .junk, .junk, .junk, .junk, .junk, .junk, .junk, .junk, .junk, .junk, .junk, .junk, .junk, .junk, .junk, .junk, .junk, .junk, .junk, .junk, .junk, .junk, .junk, .junk, .junk, .junk, .junk, .junk, .junk, .junk, .junk, .junk, .junk, .junk, .junk], []⟩
abbrev den_Saving_t3 := (List D_api_Rule) × Int × Int × Int × Int
def den_Saving_m3 (z : den_Saving_t3) : St := ⟨[.v ⟨(.list T_api_Rule), z.1⟩, .v ⟨(.int .i64), z.2.1⟩, .v ⟨(.int .i64), z.2.2.1⟩, .junk, .junk, .junk, .junk, .junk, .junk, .junk, .v ⟨(.int .i64), z.2.2.2.1⟩, .junk, .junk, .junk, .v ⟨(.int .i64), z.2.2.2.2⟩, .junk, .junk, .junk, .junk, .junk, .junk, .junk, .junk, .junk, .junk, .junk, .junk, .junk, .junk, .junk, .junk, .junk, .junk, .junk, .junk, .junk, .junk, .junk, .junk, .junk, .junk, .junk, .junk, .junk, .junk, .junk, .junk, .junk, .junk, .junk, .junk, .junk, .junk, .junk, .junk, .junk, .junk, .junk, .junk, .junk, .junk, .junk, .junk, .junk, .junk, .junk, .junk, .junk, .junk, .junk, .junk, .junk, .junk, .junk, .junk, .junk, .junk, .junk, .junk, .junk, .junk, .junk, .junk, .junk, .junk, .junk, .junk], []⟩
abbrev den_Saving_t4 := (List D_api_Rule) × Int × Int × Int × Int
def den_Saving_m4 (z : den_Saving_t4) : St := ⟨[.v ⟨(.list T_api_Rule), z.1⟩, .v ⟨(.int .i64), z.2.1⟩, .v ⟨(.int .i64), z.2.2.1⟩, .junk, .junk, .junk, .junk, .junk, .junk, .junk, .v ⟨(.int .i64), z.2.2.2.1⟩, .junk, .junk, .junk, .v ⟨(.int .i64), z.2.2.2.2⟩, .junk, .junk, .junk, .junk, .junk, .junk, .junk, .junk, .junk, .junk, .junk, .junk, .junk, .junk, .junk, .junk, .junk, .junk, .junk, .junk, .junk, .junk, .junk, .junk, .junk, .junk, .junk, .junk, .junk, .junk, .junk, .junk, .junk, .junk, .junk, .junk, .junk, .junk, .junk, .junk, .junk, .junk, .junk, .junk, .junk, .junk, .junk, .junk, .junk, .junk, .junk, .junk, .junk, .junk, .junk, .junk, .junk, .junk, .junk, .junk, .junk, .junk, .junk, .junk, .junk, .junk, .junk, .junk, .junk, .junk, .junk, .junk], []⟩
abbrev den_Saving_t5 := (List D_api_Rule) × Int × Int × Int × Int × Int × (List D_expand_Fire)
def den_Saving_m5 (z : den_Saving_t5) : St := ⟨[.v ⟨(.list T_api_Rule), z.1⟩, .v ⟨(.int .i64), z.2.1⟩, .v ⟨(.int .i64), z.2.2.1⟩, .junk, .junk, .junk, .junk, .junk, .junk, .junk, .v ⟨(.int .i64), z.2.2.2.1⟩, .junk, .junk, .junk, .v ⟨(.int .i64), z.2.2.2.2.1⟩, .v ⟨(.sl 0 T_expand_Fire), ()⟩, .v ⟨(.int .i64), z.2.2.2.2.2.1⟩, .junk, .junk, .junk, .junk, .junk, .junk, .junk, .junk, .junk, .junk, .junk, .junk, .junk, .junk, .junk, .junk, .junk, .junk, .junk, .junk, .junk, .junk, .junk, .junk, .junk, .junk, .junk, .junk, .junk, .junk, .junk, .junk, .junk, .junk, .junk, .junk, .junk, .junk, .junk, .junk, .junk, .junk, .junk, .junk, .junk, .junk, .junk, .junk, .junk, .junk, .junk, .junk, .junk, .junk, .junk, .junk, .junk, .junk, .junk, .junk, .junk, .junk, .junk, .junk, .junk, .junk, .junk, .junk, .junk, .junk], [some (.arr 84 T_expand_Fire z.2.2.2.2.2.2)]⟩
abbrev den_Saving_t6 := (List D_api_Rule) × Int × Int × Int × Int × Int × (List D_expand_Fire)
def den_Saving_m6 (z : den_Saving_t6) : St := ⟨[.v ⟨(.list T_api_Rule), z.1⟩, .v ⟨(.int .i64), z.2.1⟩, .v ⟨(.int .i64), z.2.2.1⟩, .junk, .junk, .junk, .junk, .junk, .junk, .junk, .v ⟨(.int .i64), z.2.2.2.1⟩, .junk, .junk, .junk, .v ⟨(.int .i64), z.2.2.2.2.1⟩, .v ⟨(.sl 0 T_expand_Fire), ()⟩, .v ⟨(.int .i64), z.2.2.2.2.2.1⟩, .junk, .junk, .junk, .junk, .junk, .junk, .junk, .junk, .junk, .junk, .junk, .junk, .junk, .junk, .junk, .junk, .junk, .junk, .junk, .junk, .junk, .junk, .junk, .junk, .junk, .junk, .junk, .junk, .junk, .junk, .junk, .junk, .junk, .junk, .junk, .junk, .junk, .junk, .junk, .junk, .junk, .junk, .junk, .junk, .junk, .junk, .junk, .junk, .junk, .junk, .junk, .junk, .junk, .junk, .junk, .junk, .junk, .junk, .junk, .junk, .junk, .junk, .junk, .junk, .junk, .junk, .junk, .junk, .junk, .junk], [some (.arr 84 T_expand_Fire z.2.2.2.2.2.2)]⟩
def den_Saving_p1 (n : Nat) (z : den_Saving_t1) : Option (Int × (ByteArray × Unit)) :=
  ((expand_Letter n (z, ()))).bind fun v11 =>
  some ((0 : Int), (v11.1, ()))
def den_Saving_s1 (n : Nat) (z : den_Saving_t1) : Option (Int × (ByteArray × Unit)) := den_Saving_p1 n z
theorem den_Saving_e1 (n : Nat) (rc : Code → An → St → (Ex → St → Option (Int × (ByteArray × Unit))) → Option (Int × (ByteArray × Unit))) (z : den_Saving_t1) : codeR rc Try.prog den_Saving_sp n (cr (cr (cr (cr (cr (cr (cr (bodyOf Try.f24)))))))) den_Saving_an.right.right.right.right.right.right.right (den_Saving_m1 z) (kFin Try.prog den_Saving_rs Try.f24) = den_Saving_p1 n z := by kernel_rfl
theorem den_Saving_q1 (n : Nat) (z : den_Saving_t1) : codeK Try.prog den_Saving_sp n (cr (cr (cr (cr (cr (cr (cr (bodyOf Try.f24)))))))) den_Saving_an.right.right.right.right.right.right.right (den_Saving_m1 z) (kFin Try.prog den_Saving_rs Try.f24) = den_Saving_s1 n z := by
  rw [codeK_R, den_Saving_e1]
  rfl
def den_Saving_p4 (_n : Nat) (_k1 : den_Saving_t1 → Option (Int × (ByteArray × Unit))) (r3 : den_Saving_t3 → Option (Int × (ByteArray × Unit))) (z : den_Saving_t4) : Option (Int × (ByteArray × Unit)) :=
  r3 (z.1, z.2.1, z.2.2.1, z.2.2.2.1, (w64 (z.2.2.2.2 - 8)))
def den_Saving_s4 (n : Nat) (k1 : den_Saving_t1 → Option (Int × (ByteArray × Unit))) (r3 : den_Saving_t3 → Option (Int × (ByteArray × Unit))) (z : den_Saving_t4) : Option (Int × (ByteArray × Unit)) := den_Saving_p4 n k1 r3 z
theorem den_Saving_e4 (n : Nat) (k1 : St → Option (Int × (ByteArray × Unit))) (r3 : St → Option (Int × (ByteArray × Unit))) (rc : Code → An → St → (Ex → St → Option (Int × (ByteArray × Unit))) → Option (Int × (ByteArray × Unit))) (z : den_Saving_t4) : codeR rc Try.prog den_Saving_sp n (cr (cr (cl (cl (cr (cl (cr (cr (cr (cr (cr (cr (bodyOf Try.f24))))))))))))) den_Saving_an.right.right.right.right.right.right.left.right.left.left.right.right (den_Saving_m4 z) (kSeq r3 den_Saving_an.right.right.right.right.right.right.left.right.left (kBlk 0 (kSeq k1 den_Saving_an.right.right.right.right.right.right (kFin Try.prog den_Saving_rs Try.f24)))) = den_Saving_p4 n (fun y => k1 (den_Saving_m1 y)) (fun y => r3 (den_Saving_m3 y)) z := by kernel_rfl
theorem den_Saving_q4 (n : Nat) (k1 : St → Option (Int × (ByteArray × Unit))) (r3 : St → Option (Int × (ByteArray × Unit))) (z : den_Saving_t4) : codeK Try.prog den_Saving_sp n (cr (cr (cl (cl (cr (cl (cr (cr (cr (cr (cr (cr (bodyOf Try.f24))))))))))))) den_Saving_an.right.right.right.right.right.right.left.right.left.left.right.right (den_Saving_m4 z) (kSeq r3 den_Saving_an.right.right.right.right.right.right.left.right.left (kBlk 0 (kSeq k1 den_Saving_an.right.right.right.right.right.right (kFin Try.prog den_Saving_rs Try.f24)))) = den_Saving_s4 n (fun y => k1 (den_Saving_m1 y)) (fun y => r3 (den_Saving_m3 y)) z := by
  rw [codeK_R, den_Saving_e4]
  rfl
def den_Saving_p6 (n : Nat) (_k1 : den_Saving_t1 → Option (Int × (ByteArray × Unit))) (_r3 : den_Saving_t3 → Option (Int × (ByteArray × Unit))) (k4 : den_Saving_t4 → Option (Int × (ByteArray × Unit))) (r6 : den_Saving_t6 → Option (Int × (ByteArray × Unit))) (z : den_Saving_t6) : Option (Int × (ByteArray × Unit)) :=
  bif (decide (z.2.2.2.2.2.1 ≥ 0)) then
    bif decide (0 ≤ z.2.2.2.2.2.1 ∧ z.2.2.2.2.2.1 < (List.length z.2.2.2.2.2.2 : Int)) then
      ((z.2.2.2.2.2.2[(Int.toNat z.2.2.2.2.2.1)]?)).bind fun e13 =>
      ((expand_Instant n (z.1, (e13, (z.2.1, ()))))).bind fun v14 =>
      bif (decide (v14.1 ≤ z.2.2.1)) then
        bif decide (0 ≤ z.2.2.2.2.2.1 ∧ z.2.2.2.2.2.1 < (List.length z.2.2.2.2.2.2 : Int)) then
          ((z.2.2.2.2.2.2[(Int.toNat z.2.2.2.2.2.1)]?)).bind fun e16 =>
          bif decide (0 ≤ e16.1) then
            ((z.1[Int.toNat e16.1]?)).bind fun e17 =>
            some (e17.2.2.2.2.2.2.1, (e17.2.2.2.2.2.2.2.1, ()))
          else none
        else none
      else
        r6 (z.1, z.2.1, z.2.2.1, z.2.2.2.1, z.2.2.2.2.1, (w64 (z.2.2.2.2.2.1 - 1)), z.2.2.2.2.2.2)
    else none
  else
    k4 (z.1, z.2.1, z.2.2.1, z.2.2.2.1, z.2.2.2.2.1)
def den_Saving_s6 (n : Nat) (k1 : den_Saving_t1 → Option (Int × (ByteArray × Unit))) (r3 : den_Saving_t3 → Option (Int × (ByteArray × Unit))) (k4 : den_Saving_t4 → Option (Int × (ByteArray × Unit))) (r6 : den_Saving_t6 → Option (Int × (ByteArray × Unit))) (z : den_Saving_t6) : Option (Int × (ByteArray × Unit)) := den_Saving_p6 n k1 r3 k4 r6 z
theorem den_Saving_e6 (n : Nat) (k1 : St → Option (Int × (ByteArray × Unit))) (r3 : St → Option (Int × (ByteArray × Unit))) (k4 : St → Option (Int × (ByteArray × Unit))) (r6 : St → Option (Int × (ByteArray × Unit))) (rc : Code → An → St → (Ex → St → Option (Int × (ByteArray × Unit))) → Option (Int × (ByteArray × Unit))) (z : den_Saving_t6) : codeR rc Try.prog den_Saving_sp n (cl (cl (cr (cr (cl (cl (cr (cl (cl (cr (cl (cr (cr (cr (cr (cr (cr (bodyOf Try.f24)))))))))))))))))) den_Saving_an.right.right.right.right.right.right.left.right.left.left.right.left.left.right.right.left.left (den_Saving_m6 z) (kSeq r6 den_Saving_an.right.right.right.right.right.right.left.right.left.left.right.left.left.right.right.left (kBlk 2 (kBlk 1 (kSeq k4 den_Saving_an.right.right.right.right.right.right.left.right.left.left.right (kSeq r3 den_Saving_an.right.right.right.right.right.right.left.right.left (kBlk 0 (kSeq k1 den_Saving_an.right.right.right.right.right.right (kFin Try.prog den_Saving_rs Try.f24)))))))) = den_Saving_p6 n (fun y => k1 (den_Saving_m1 y)) (fun y => r3 (den_Saving_m3 y)) (fun y => k4 (den_Saving_m4 y)) (fun y => r6 (den_Saving_m6 y)) z := by kernel_rfl
theorem den_Saving_q6 (n : Nat) (k1 : St → Option (Int × (ByteArray × Unit))) (r3 : St → Option (Int × (ByteArray × Unit))) (k4 : St → Option (Int × (ByteArray × Unit))) (r6 : St → Option (Int × (ByteArray × Unit))) (z : den_Saving_t6) : codeK Try.prog den_Saving_sp n (cl (cl (cr (cr (cl (cl (cr (cl (cl (cr (cl (cr (cr (cr (cr (cr (cr (bodyOf Try.f24)))))))))))))))))) den_Saving_an.right.right.right.right.right.right.left.right.left.left.right.left.left.right.right.left.left (den_Saving_m6 z) (kSeq r6 den_Saving_an.right.right.right.right.right.right.left.right.left.left.right.left.left.right.right.left (kBlk 2 (kBlk 1 (kSeq k4 den_Saving_an.right.right.right.right.right.right.left.right.left.left.right (kSeq r3 den_Saving_an.right.right.right.right.right.right.left.right.left (kBlk 0 (kSeq k1 den_Saving_an.right.right.right.right.right.right (kFin Try.prog den_Saving_rs Try.f24)))))))) = den_Saving_s6 n (fun y => k1 (den_Saving_m1 y)) (fun y => r3 (den_Saving_m3 y)) (fun y => k4 (den_Saving_m4 y)) (fun y => r6 (den_Saving_m6 y)) z := by
  rw [codeK_R, den_Saving_e6]
  rfl
def den_Saving_s5 (n : Nat) (k1 : den_Saving_t1 → Option (Int × (ByteArray × Unit))) (r3 : den_Saving_t3 → Option (Int × (ByteArray × Unit))) (k4 : den_Saving_t4 → Option (Int × (ByteArray × Unit))) (z : den_Saving_t5) : Option (Int × (ByteArray × Unit)) :=
  rounds (fun r6 x' => den_Saving_s6 n k1 r3 k4 r6 x') n (z.1, z.2.1, z.2.2.1, z.2.2.2.1, z.2.2.2.2.1, z.2.2.2.2.2.1, z.2.2.2.2.2.2)
theorem den_Saving_q5 (n : Nat) (k1 : St → Option (Int × (ByteArray × Unit))) (r3 : St → Option (Int × (ByteArray × Unit))) (k4 : St → Option (Int × (ByteArray × Unit))) (z : den_Saving_t5) : codeK Try.prog den_Saving_sp n (cr (cr (cl (cl (cr (cl (cl (cr (cl (cr (cr (cr (cr (cr (cr (bodyOf Try.f24)))))))))))))))) den_Saving_an.right.right.right.right.right.right.left.right.left.left.right.left.left.right.right (den_Saving_m5 z) (kBlk 1 (kSeq k4 den_Saving_an.right.right.right.right.right.right.left.right.left.left.right (kSeq r3 den_Saving_an.right.right.right.right.right.right.left.right.left (kBlk 0 (kSeq k1 den_Saving_an.right.right.right.right.right.right (kFin Try.prog den_Saving_rs Try.f24)))))) = den_Saving_s5 n (fun y => k1 (den_Saving_m1 y)) (fun y => r3 (den_Saving_m3 y)) (fun y => k4 (den_Saving_m4 y)) z :=
  Eq.trans (b := rounds (fun r6 st => codeK Try.prog den_Saving_sp n (cl (cl (cr (cr (cl (cl (cr (cl (cl (cr (cl (cr (cr (cr (cr (cr (cr (bodyOf Try.f24)))))))))))))))))) den_Saving_an.right.right.right.right.right.right.left.right.left.left.right.left.left.right.right.left.left st (kSeq r6 den_Saving_an.right.right.right.right.right.right.left.right.left.left.right.left.left.right.right.left (kBlk 2 (kBlk 1 (kSeq k4 den_Saving_an.right.right.right.right.right.right.left.right.left.left.right (kSeq r3 den_Saving_an.right.right.right.right.right.right.left.right.left (kBlk 0 (kSeq k1 den_Saving_an.right.right.right.right.right.right (kFin Try.prog den_Saving_rs Try.f24))))))))) n (den_Saving_m6 (z.1, z.2.1, z.2.2.1, z.2.2.2.1, z.2.2.2.2.1, z.2.2.2.2.2.1, z.2.2.2.2.2.2))) (by kernel_rfl) (rounds_mk den_Saving_m6 (fun r6 x' => by
    have := (den_Saving_q6 n k1 r3 k4 r6 x')
    exact this) n _)
def den_Saving_p3 (n : Nat) (k1 : den_Saving_t1 → Option (Int × (ByteArray × Unit))) (_r3 : den_Saving_t3 → Option (Int × (ByteArray × Unit))) (k4 : den_Saving_t4 → Option (Int × (ByteArray × Unit))) (k5 : den_Saving_t5 → Option (Int × (ByteArray × Unit))) (z : den_Saving_t3) : Option (Int × (ByteArray × Unit)) :=
  bif (decide (z.2.2.2.2 ≥ z.2.2.2.1)) then
    ((expand_From n (z.1, ((w64 (z.2.2.2.2 - 7)), (z.2.2.2.2, ()))))).bind fun v9 =>
    k5 (z.1, z.2.1, z.2.2.1, z.2.2.2.1, z.2.2.2.2, (w64 ((List.length v9.1 : Int) - 1)), v9.1)
  else
    k1 z.1
def den_Saving_s3 (n : Nat) (k1 : den_Saving_t1 → Option (Int × (ByteArray × Unit))) (r3 : den_Saving_t3 → Option (Int × (ByteArray × Unit))) (z : den_Saving_t3) : Option (Int × (ByteArray × Unit)) := den_Saving_p3 n k1 r3 (den_Saving_s4 n k1 r3) (den_Saving_s5 n k1 r3 (den_Saving_s4 n k1 r3)) z
theorem den_Saving_e3 (n : Nat) (k1 : St → Option (Int × (ByteArray × Unit))) (r3 : St → Option (Int × (ByteArray × Unit))) (rc : Code → An → St → (Ex → St → Option (Int × (ByteArray × Unit))) → Option (Int × (ByteArray × Unit))) (z : den_Saving_t3) : codeR rc Try.prog den_Saving_sp n (cl (cl (cr (cl (cr (cr (cr (cr (cr (cr (bodyOf Try.f24))))))))))) den_Saving_an.right.right.right.right.right.right.left.right.left.left (den_Saving_m3 z) (kSeq r3 den_Saving_an.right.right.right.right.right.right.left.right.left (kBlk 0 (kSeq k1 den_Saving_an.right.right.right.right.right.right (kFin Try.prog den_Saving_rs Try.f24)))) = den_Saving_p3 n (fun y => k1 (den_Saving_m1 y)) (fun y => r3 (den_Saving_m3 y)) (fun y => rc (cr (cr (cl (cl (cr (cl (cr (cr (cr (cr (cr (cr (bodyOf Try.f24))))))))))))) den_Saving_an.right.right.right.right.right.right.left.right.left.left.right.right (den_Saving_m4 y) (kSeq r3 den_Saving_an.right.right.right.right.right.right.left.right.left (kBlk 0 (kSeq k1 den_Saving_an.right.right.right.right.right.right (kFin Try.prog den_Saving_rs Try.f24))))) (fun y => rc (cr (cr (cl (cl (cr (cl (cl (cr (cl (cr (cr (cr (cr (cr (cr (bodyOf Try.f24)))))))))))))))) den_Saving_an.right.right.right.right.right.right.left.right.left.left.right.left.left.right.right (den_Saving_m5 y) (kBlk 1 (kSeq (fun st => rc (cr (cr (cl (cl (cr (cl (cr (cr (cr (cr (cr (cr (bodyOf Try.f24))))))))))))) den_Saving_an.right.right.right.right.right.right.left.right.left.left.right.right st (kSeq r3 den_Saving_an.right.right.right.right.right.right.left.right.left (kBlk 0 (kSeq k1 den_Saving_an.right.right.right.right.right.right (kFin Try.prog den_Saving_rs Try.f24))))) den_Saving_an.right.right.right.right.right.right.left.right.left.left.right (kSeq r3 den_Saving_an.right.right.right.right.right.right.left.right.left (kBlk 0 (kSeq k1 den_Saving_an.right.right.right.right.right.right (kFin Try.prog den_Saving_rs Try.f24))))))) z := by kernel_rfl
theorem den_Saving_q3 (n : Nat) (k1 : St → Option (Int × (ByteArray × Unit))) (r3 : St → Option (Int × (ByteArray × Unit))) (z : den_Saving_t3) : codeK Try.prog den_Saving_sp n (cl (cl (cr (cl (cr (cr (cr (cr (cr (cr (bodyOf Try.f24))))))))))) den_Saving_an.right.right.right.right.right.right.left.right.left.left (den_Saving_m3 z) (kSeq r3 den_Saving_an.right.right.right.right.right.right.left.right.left (kBlk 0 (kSeq k1 den_Saving_an.right.right.right.right.right.right (kFin Try.prog den_Saving_rs Try.f24)))) = den_Saving_s3 n (fun y => k1 (den_Saving_m1 y)) (fun y => r3 (den_Saving_m3 y)) z := by
  have h4 : (fun y => codeK Try.prog den_Saving_sp n (cr (cr (cl (cl (cr (cl (cr (cr (cr (cr (cr (cr (bodyOf Try.f24))))))))))))) den_Saving_an.right.right.right.right.right.right.left.right.left.left.right.right (den_Saving_m4 y) (kSeq r3 den_Saving_an.right.right.right.right.right.right.left.right.left (kBlk 0 (kSeq k1 den_Saving_an.right.right.right.right.right.right (kFin Try.prog den_Saving_rs Try.f24))))) = (den_Saving_s4 n (fun y => k1 (den_Saving_m1 y)) (fun y => r3 (den_Saving_m3 y))) := funext fun y => by
    have := den_Saving_q4 n k1 r3 y
    exact this
  have h5 : (fun y => codeK Try.prog den_Saving_sp n (cr (cr (cl (cl (cr (cl (cl (cr (cl (cr (cr (cr (cr (cr (cr (bodyOf Try.f24)))))))))))))))) den_Saving_an.right.right.right.right.right.right.left.right.left.left.right.left.left.right.right (den_Saving_m5 y) (kBlk 1 (kSeq (fun st => codeK Try.prog den_Saving_sp n (cr (cr (cl (cl (cr (cl (cr (cr (cr (cr (cr (cr (bodyOf Try.f24))))))))))))) den_Saving_an.right.right.right.right.right.right.left.right.left.left.right.right st (kSeq r3 den_Saving_an.right.right.right.right.right.right.left.right.left (kBlk 0 (kSeq k1 den_Saving_an.right.right.right.right.right.right (kFin Try.prog den_Saving_rs Try.f24))))) den_Saving_an.right.right.right.right.right.right.left.right.left.left.right (kSeq r3 den_Saving_an.right.right.right.right.right.right.left.right.left (kBlk 0 (kSeq k1 den_Saving_an.right.right.right.right.right.right (kFin Try.prog den_Saving_rs Try.f24))))))) = (den_Saving_s5 n (fun y => k1 (den_Saving_m1 y)) (fun y => r3 (den_Saving_m3 y)) (den_Saving_s4 n (fun y => k1 (den_Saving_m1 y)) (fun y => r3 (den_Saving_m3 y)))) := funext fun y => by
    have := den_Saving_q5 n k1 r3 (fun st => codeK Try.prog den_Saving_sp n (cr (cr (cl (cl (cr (cl (cr (cr (cr (cr (cr (cr (bodyOf Try.f24))))))))))))) den_Saving_an.right.right.right.right.right.right.left.right.left.left.right.right st (kSeq r3 den_Saving_an.right.right.right.right.right.right.left.right.left (kBlk 0 (kSeq k1 den_Saving_an.right.right.right.right.right.right (kFin Try.prog den_Saving_rs Try.f24))))) y
    rw [h4] at this; exact this
  rw [codeK_R, den_Saving_e3]
  rw [h4]
  rw [h5]
  rfl
def den_Saving_s2 (n : Nat) (k1 : den_Saving_t1 → Option (Int × (ByteArray × Unit))) (z : den_Saving_t2) : Option (Int × (ByteArray × Unit)) :=
  rounds (fun r3 x' => den_Saving_s3 n k1 r3 x') n (z.1, z.2.1, z.2.2.1, z.2.2.2.1, z.2.2.2.2)
theorem den_Saving_q2 (n : Nat) (k1 : St → Option (Int × (ByteArray × Unit))) (z : den_Saving_t2) : codeK Try.prog den_Saving_sp n (cr (cl (cr (cr (cr (cr (cr (cr (bodyOf Try.f24))))))))) den_Saving_an.right.right.right.right.right.right.left.right (den_Saving_m2 z) (kSeq k1 den_Saving_an.right.right.right.right.right.right (kFin Try.prog den_Saving_rs Try.f24)) = den_Saving_s2 n (fun y => k1 (den_Saving_m1 y)) z :=
  Eq.trans (b := rounds (fun r3 st => codeK Try.prog den_Saving_sp n (cl (cl (cr (cl (cr (cr (cr (cr (cr (cr (bodyOf Try.f24))))))))))) den_Saving_an.right.right.right.right.right.right.left.right.left.left st (kSeq r3 den_Saving_an.right.right.right.right.right.right.left.right.left (kBlk 0 (kSeq k1 den_Saving_an.right.right.right.right.right.right (kFin Try.prog den_Saving_rs Try.f24))))) n (den_Saving_m3 (z.1, z.2.1, z.2.2.1, z.2.2.2.1, z.2.2.2.2))) (by kernel_rfl) (rounds_mk den_Saving_m3 (fun r3 x' => by
    have := (den_Saving_q3 n k1 r3 x')
    exact this) n _)
def den_Saving_p0 (_n : Nat) (k1 : den_Saving_t1 → Option (Int × (ByteArray × Unit))) (k2 : den_Saving_t2 → Option (Int × (ByteArray × Unit))) (z : den_Saving_t0) : Option (Int × (ByteArray × Unit)) :=
  k2 (z.1, z.2.1, z.2.2.1, z.2.2.2.1, z.2.2.2.2)
def den_Saving_s0 (n : Nat) (z : den_Saving_t0) : Option (Int × (ByteArray × Unit)) := den_Saving_p0 n (den_Saving_s1 n) (den_Saving_s2 n (den_Saving_s1 n)) z
theorem den_Saving_e0 (n : Nat) (rc : Code → An → St → (Ex → St → Option (Int × (ByteArray × Unit))) → Option (Int × (ByteArray × Unit))) (z : den_Saving_t0) : codeR rc Try.prog den_Saving_sp n (cr (cr (cr (cr (cr (cr (bodyOf Try.f24))))))) den_Saving_an.right.right.right.right.right.right (den_Saving_m0 z) (kFin Try.prog den_Saving_rs Try.f24) = den_Saving_p0 n (fun y => rc (cr (cr (cr (cr (cr (cr (cr (bodyOf Try.f24)))))))) den_Saving_an.right.right.right.right.right.right.right (den_Saving_m1 y) (kFin Try.prog den_Saving_rs Try.f24)) (fun y => rc (cr (cl (cr (cr (cr (cr (cr (cr (bodyOf Try.f24))))))))) den_Saving_an.right.right.right.right.right.right.left.right (den_Saving_m2 y) (kSeq (fun st => rc (cr (cr (cr (cr (cr (cr (cr (bodyOf Try.f24)))))))) den_Saving_an.right.right.right.right.right.right.right st (kFin Try.prog den_Saving_rs Try.f24)) den_Saving_an.right.right.right.right.right.right (kFin Try.prog den_Saving_rs Try.f24))) z := by kernel_rfl
theorem den_Saving_q0 (n : Nat) (z : den_Saving_t0) : codeK Try.prog den_Saving_sp n (cr (cr (cr (cr (cr (cr (bodyOf Try.f24))))))) den_Saving_an.right.right.right.right.right.right (den_Saving_m0 z) (kFin Try.prog den_Saving_rs Try.f24) = den_Saving_s0 n z := by
  have h1 : (fun y => codeK Try.prog den_Saving_sp n (cr (cr (cr (cr (cr (cr (cr (bodyOf Try.f24)))))))) den_Saving_an.right.right.right.right.right.right.right (den_Saving_m1 y) (kFin Try.prog den_Saving_rs Try.f24)) = (den_Saving_s1 n) := funext fun y => by
    have := den_Saving_q1 n  y
    exact this
  have h2 : (fun y => codeK Try.prog den_Saving_sp n (cr (cl (cr (cr (cr (cr (cr (cr (bodyOf Try.f24))))))))) den_Saving_an.right.right.right.right.right.right.left.right (den_Saving_m2 y) (kSeq (fun st => codeK Try.prog den_Saving_sp n (cr (cr (cr (cr (cr (cr (cr (bodyOf Try.f24)))))))) den_Saving_an.right.right.right.right.right.right.right st (kFin Try.prog den_Saving_rs Try.f24)) den_Saving_an.right.right.right.right.right.right (kFin Try.prog den_Saving_rs Try.f24))) = (den_Saving_s2 n (den_Saving_s1 n)) := funext fun y => by
    have := den_Saving_q2 n (fun st => codeK Try.prog den_Saving_sp n (cr (cr (cr (cr (cr (cr (cr (bodyOf Try.f24)))))))) den_Saving_an.right.right.right.right.right.right.right st (kFin Try.prog den_Saving_rs Try.f24)) y
    rw [h1] at this; exact this
  rw [codeK_R, den_Saving_e0]
  rw [h1]
  rw [h2]
  rfl
def den_Saving_px (n : Nat) (k0 : den_Saving_t0 → Option (Int × (ByteArray × Unit))) (x : ((List D_api_Rule) × D_api_At)) : Option (Int × (ByteArray × Unit)) :=
  ((den_year n (x.2.2.1, ()))).bind fun v1 =>
  bif (!v1.2.1) then
    ((expand_Letter n (x.1, ()))).bind fun v2 =>
    some ((0 : Int), (v2.1, ()))
  else
    bif ((List.length x.1 : Int) == 0) then
      ((expand_Letter n (x.1, ()))).bind fun v3 =>
      some ((0 : Int), (v3.1, ()))
    else
      ((expand_Span n (x.1, ()))).bind fun v4 =>
      let t6 := imin (w64 (v1.1 + 1)) (9999 : Int)
      bif (!v4.2.2.1) then
        k0 (x.1, x.2.1, x.2.2.1, v4.1, (imin t6 v4.2.1))
      else
        k0 (x.1, x.2.1, x.2.2.1, v4.1, t6)
def den_Saving (n : Nat) (x : ((List D_api_Rule) × D_api_At)) : Option (Int × (ByteArray × Unit)) := den_Saving_px n (den_Saving_s0 n) x
theorem den_Saving_ex (n : Nat) (rc : Code → An → St → (Ex → St → Option (Int × (ByteArray × Unit))) → Option (Int × (ByteArray × Unit))) (x : ((List D_api_Rule) × D_api_At)) : codeR rc Try.prog den_Saving_sp n (bodyOf Try.f24) den_Saving_an (start den_Saving_ps x (Func.ntmps Try.f24)) (kFin Try.prog den_Saving_rs Try.f24) = den_Saving_px n (fun y => rc (cr (cr (cr (cr (cr (cr (bodyOf Try.f24))))))) den_Saving_an.right.right.right.right.right.right (den_Saving_m0 y) (kFin Try.prog den_Saving_rs Try.f24)) x := by kernel_rfl
theorem den_Saving_qx (n : Nat) (x : ((List D_api_Rule) × D_api_At)) : codeK Try.prog den_Saving_sp n (bodyOf Try.f24) den_Saving_an (start den_Saving_ps x (Func.ntmps Try.f24)) (kFin Try.prog den_Saving_rs Try.f24) = den_Saving n x := by
  have h0 : (fun y => codeK Try.prog den_Saving_sp n (cr (cr (cr (cr (cr (cr (bodyOf Try.f24))))))) den_Saving_an.right.right.right.right.right.right (den_Saving_m0 y) (kFin Try.prog den_Saving_rs Try.f24)) = (den_Saving_s0 n) := funext fun y => by
    have := den_Saving_q0 n  y
    exact this
  rw [codeK_R, den_Saving_ex]
  rw [h0]
  rfl
def den_Saving_spec : Sp := ⟨den_Saving_ps, den_Saving_rs, den_Saving⟩
theorem den_Saving_ok : SoundX Try.prog CX 24 (.f den_Saving_spec) := sound_of (look_cons den_year_ok (look_cons expand_Letter_ok (look_cons expand_Span_ok (look_cons expand_From_ok (look_cons expand_Instant_ok look_nil))))) Try.func24 (by kernel_rfl) rfl den_Saving_an den_Saving_spec rfl rfl den_Saving_qx

/-! ### (noonmark/den.Zone).saving -/
abbrev den_Zone_saving_ps : Ty := (.pair T_noonmarkref15_Zone T_api_At)
abbrev den_Zone_saving_rs : Ty := (.pair (.int .i64) (.pair .str .unit))
def den_Zone_saving_sp : Specs := look [(24, .f den_Saving_spec)]
def den_Zone_saving_an : An := (.s .o (.k [] [] 0 .o .o))
abbrev den_Zone_saving_t0 := Unit
def den_Zone_saving_m0 (_z : den_Zone_saving_t0) : St := ⟨[.junk, .junk, .junk, .junk, .junk, .junk, .junk, .junk, .junk, .junk, .junk, .junk, .junk, .junk, .junk, .junk, .junk, .junk, .junk, .junk, .junk, .junk, .junk, .junk, .junk, .junk, .junk, .junk, .junk, .junk, .junk, .junk, .junk, .junk, .junk, .junk, .junk, .junk], []⟩
def den_Zone_saving_p0 (_n : Nat) (_z : den_Zone_saving_t0) : Option (Int × (ByteArray × Unit)) :=
  some ((0 : Int), ((⟨#[]⟩ : ByteArray), ()))
def den_Zone_saving_s0 (n : Nat) (z : den_Zone_saving_t0) : Option (Int × (ByteArray × Unit)) := den_Zone_saving_p0 n z
theorem den_Zone_saving_e0 (n : Nat) (rc : Code → An → St → (Ex → St → Option (Int × (ByteArray × Unit))) → Option (Int × (ByteArray × Unit))) (z : den_Zone_saving_t0) : codeR rc Try.prog den_Zone_saving_sp n (cr (cr (bodyOf Try.f15))) den_Zone_saving_an.right.right (den_Zone_saving_m0 z) (kFin Try.prog den_Zone_saving_rs Try.f15) = den_Zone_saving_p0 n z := by kernel_rfl
theorem den_Zone_saving_q0 (n : Nat) (z : den_Zone_saving_t0) : codeK Try.prog den_Zone_saving_sp n (cr (cr (bodyOf Try.f15))) den_Zone_saving_an.right.right (den_Zone_saving_m0 z) (kFin Try.prog den_Zone_saving_rs Try.f15) = den_Zone_saving_s0 n z := by
  rw [codeK_R, den_Zone_saving_e0]
  rfl
def den_Zone_saving_px (n : Nat) (k0 : den_Zone_saving_t0 → Option (Int × (ByteArray × Unit))) (x : (D_noonmarkref15_Zone × D_api_At)) : Option (Int × (ByteArray × Unit)) :=
  bif decide (0 ≤ x.2.1) then
    ((x.1.1[Int.toNat x.2.1]?)).bind fun e1 =>
    bif (e1.2.1 == 1) then
      some (e1.2.2.1, ((⟨#[]⟩ : ByteArray), ()))
    else
      bif (e1.2.1 == 2) then
        bif (decide (x.2.1 < (List.length x.1.2.1 : Int))) then
          bif decide (0 ≤ x.2.1) then
            ((x.1.2.1[Int.toNat x.2.1]?)).bind fun e2 =>
            ((den_Saving n (e2, (e1.1, (x.2.2.1, ()))))).bind fun v3 =>
            some (v3.1, (v3.2.1, ()))
          else none
        else
          k0 ()
      else
        k0 ()
  else none
def den_Zone_saving (n : Nat) (x : (D_noonmarkref15_Zone × D_api_At)) : Option (Int × (ByteArray × Unit)) := den_Zone_saving_px n (den_Zone_saving_s0 n) x
theorem den_Zone_saving_ex (n : Nat) (rc : Code → An → St → (Ex → St → Option (Int × (ByteArray × Unit))) → Option (Int × (ByteArray × Unit))) (x : (D_noonmarkref15_Zone × D_api_At)) : codeR rc Try.prog den_Zone_saving_sp n (bodyOf Try.f15) den_Zone_saving_an (start den_Zone_saving_ps x (Func.ntmps Try.f15)) (kFin Try.prog den_Zone_saving_rs Try.f15) = den_Zone_saving_px n (fun y => rc (cr (cr (bodyOf Try.f15))) den_Zone_saving_an.right.right (den_Zone_saving_m0 y) (kFin Try.prog den_Zone_saving_rs Try.f15)) x := by kernel_rfl
theorem den_Zone_saving_qx (n : Nat) (x : (D_noonmarkref15_Zone × D_api_At)) : codeK Try.prog den_Zone_saving_sp n (bodyOf Try.f15) den_Zone_saving_an (start den_Zone_saving_ps x (Func.ntmps Try.f15)) (kFin Try.prog den_Zone_saving_rs Try.f15) = den_Zone_saving n x := by
  have h0 : (fun y => codeK Try.prog den_Zone_saving_sp n (cr (cr (bodyOf Try.f15))) den_Zone_saving_an.right.right (den_Zone_saving_m0 y) (kFin Try.prog den_Zone_saving_rs Try.f15)) = (den_Zone_saving_s0 n) := funext fun y => by
    have := den_Zone_saving_q0 n  y
    exact this
  rw [codeK_R, den_Zone_saving_ex]
  rw [h0]
  rfl
def den_Zone_saving_spec : Sp := ⟨den_Zone_saving_ps, den_Zone_saving_rs, den_Zone_saving⟩
theorem den_Zone_saving_ok : SoundX Try.prog CX 15 (.f den_Zone_saving_spec) := sound_of (look_cons den_Saving_ok look_nil) Try.func15 (by kernel_rfl) rfl den_Zone_saving_an den_Zone_saving_spec rfl rfl den_Zone_saving_qx

/-! ### noonmark/den.clock -/
abbrev den_clock_ps : Ty := (.pair T_api_Until .unit)
abbrev den_clock_rs : Ty := (.pair (.int .i64) (.pair .bool .unit))
def den_clock_sp : Specs := look [(30, .f dayform_Of_spec)]
def den_clock_an : An := .o
def den_clock_px (n : Nat) (x : (D_api_Until × Unit)) : Option (Int × (Bool × Unit)) :=
  ((dayform_Of n (x.1.2.2.2.1, (x.1.2.1, (x.1.2.2.1, ()))))).bind fun v1 =>
  let t3 := w64 ((w64 (v1.1 * 86400)) + x.1.2.2.2.2.1.1)
  bif (v1.2.1 == 0) then
    bif (decide (x.1.2.1 ≥ 1)) then
      some (t3, ((decide (x.1.2.1 ≤ 9999)), ()))
    else
      some (t3, (false, ()))
  else
    some (t3, (false, ()))
def den_clock (n : Nat) (x : (D_api_Until × Unit)) : Option (Int × (Bool × Unit)) := den_clock_px n x
theorem den_clock_ex (n : Nat) (rc : Code → An → St → (Ex → St → Option (Int × (Bool × Unit))) → Option (Int × (Bool × Unit))) (x : (D_api_Until × Unit)) : codeR rc Try.prog den_clock_sp n (bodyOf Try.f20) den_clock_an (start den_clock_ps x (Func.ntmps Try.f20)) (kFin Try.prog den_clock_rs Try.f20) = den_clock_px n x := by kernel_rfl
theorem den_clock_qx (n : Nat) (x : (D_api_Until × Unit)) : codeK Try.prog den_clock_sp n (bodyOf Try.f20) den_clock_an (start den_clock_ps x (Func.ntmps Try.f20)) (kFin Try.prog den_clock_rs Try.f20) = den_clock n x := by
  rw [codeK_R, den_clock_ex]
  rfl
def den_clock_spec : Sp := ⟨den_clock_ps, den_clock_rs, den_clock⟩
theorem den_clock_ok : SoundX Try.prog CX 20 (.f den_clock_spec) := sound_of (look_cons dayform_Of_ok look_nil) Try.func20 (by kernel_rfl) rfl den_clock_an den_clock_spec rfl rfl den_clock_qx

/-! ### noonmark/den.End -/
abbrev den_End_ps : Ty := (.pair T_noonmarkref15_Zone (.pair (.int .i64) .unit))
abbrev den_End_rs : Ty := (.pair (.int .i64) .unit)
def den_End_sp : Specs := look [(15, .f den_Zone_saving_spec), (20, .f den_clock_spec)]
def den_End_an : An := (.s .o (.k [] [1,2] 1 (.k [] [1,2,29] 1 .o .o) .o))
abbrev den_End_t0 := Int × D_noonmarkref15_Zone
def den_End_m0 (z : den_End_t0) : St := ⟨[.junk, .v ⟨(.int .i64), z.1⟩, .v ⟨(.ptr 0 0 T_noonmarkref15_Zone), ()⟩, .junk, .junk, .junk, .junk, .junk, .junk, .junk, .junk, .junk, .junk, .junk, .junk, .junk, .junk, .junk, .junk, .junk, .junk, .junk, .junk, .junk, .junk, .junk, .junk, .junk, .junk, .junk, .junk, .junk, .junk, .junk, .junk, .junk, .junk, .junk, .junk, .junk, .junk, .junk, .junk, .junk, .junk, .junk, .junk, .junk, .junk, .junk, .junk, .junk, .junk, .junk, .junk, .junk, .junk, .junk, .junk, .junk, .junk, .junk, .junk, .junk, .junk, .junk, .junk, .junk, .junk, .junk, .junk, .junk, .junk, .junk, .junk, .junk], [some (.one ⟨T_noonmarkref15_Zone, z.2⟩)]⟩
abbrev den_End_t1 := Int × Bool × D_noonmarkref15_Zone
def den_End_m1 (z : den_End_t1) : St := ⟨[.junk, .v ⟨(.int .i64), z.1⟩, .v ⟨(.ptr 0 0 T_noonmarkref15_Zone), ()⟩, .junk, .junk, .junk, .junk, .junk, .junk, .junk, .junk, .junk, .junk, .junk, .junk, .junk, .junk, .junk, .junk, .junk, .junk, .junk, .junk, .junk, .junk, .junk, .junk, .junk, .junk, .v ⟨.bool, z.2.1⟩, .junk, .junk, .junk, .junk, .junk, .junk, .junk, .junk, .junk, .junk, .junk, .junk, .junk, .junk, .junk, .junk, .junk, .junk, .junk, .junk, .junk, .junk, .junk, .junk, .junk, .junk, .junk, .junk, .junk, .junk, .junk, .junk, .junk, .junk, .junk, .junk, .junk, .junk, .junk, .junk, .junk, .junk, .junk, .junk, .junk, .junk], [some (.one ⟨T_noonmarkref15_Zone, z.2.2⟩)]⟩
def den_End_p0 (n : Nat) (z : den_End_t0) : Option (Int × Unit) :=
  bif decide (0 ≤ z.1) then
    ((z.2.1[Int.toNat z.1]?)).bind fun e2 =>
    ((den_clock n (e2.2.2.2.2.2.1, ()))).bind fun v3 =>
    bif (!v3.2.1) then
      some ((0 : Int), ())
    else
      bif (e2.2.2.2.2.2.1.2.2.2.2.1.2.1 == 0) then
        ((den_Zone_saving n (z.2, (z.1, ((w64 ((w64 (v3.1 - e2.1)) - 1)), ()))))).bind fun v6 =>
        some ((w64 ((w64 (v3.1 - e2.1)) - v6.1)), ())
      else
        bif (e2.2.2.2.2.2.1.2.2.2.2.1.2.1 == 1) then
          some ((w64 (v3.1 - e2.1)), ())
        else
          some (v3.1, ())
  else none
def den_End_s0 (n : Nat) (z : den_End_t0) : Option (Int × Unit) := den_End_p0 n z
theorem den_End_e0 (n : Nat) (rc : Code → An → St → (Ex → St → Option (Int × Unit)) → Option (Int × Unit)) (z : den_End_t0) : codeR rc Try.prog den_End_sp n (cr (cr (bodyOf Try.f11))) den_End_an.right.right (den_End_m0 z) (kFin Try.prog den_End_rs Try.f11) = den_End_p0 n z := by kernel_rfl
theorem den_End_q0 (n : Nat) (z : den_End_t0) : codeK Try.prog den_End_sp n (cr (cr (bodyOf Try.f11))) den_End_an.right.right (den_End_m0 z) (kFin Try.prog den_End_rs Try.f11) = den_End_s0 n z := by
  rw [codeK_R, den_End_e0]
  rfl
def den_End_p1 (_n : Nat) (k0 : den_End_t0 → Option (Int × Unit)) (z : den_End_t1) : Option (Int × Unit) :=
  bif z.2.1 then
    some ((0 : Int), ())
  else
    k0 (z.1, z.2.2)
def den_End_s1 (n : Nat) (k0 : den_End_t0 → Option (Int × Unit)) (z : den_End_t1) : Option (Int × Unit) := den_End_p1 n k0 z
theorem den_End_e1 (n : Nat) (k0 : St → Option (Int × Unit)) (rc : Code → An → St → (Ex → St → Option (Int × Unit)) → Option (Int × Unit)) (z : den_End_t1) : codeR rc Try.prog den_End_sp n (cr (cl (cr (bodyOf Try.f11)))) den_End_an.right.left.right (den_End_m1 z) (kSeq k0 den_End_an.right (kFin Try.prog den_End_rs Try.f11)) = den_End_p1 n (fun y => k0 (den_End_m0 y)) z := by kernel_rfl
theorem den_End_q1 (n : Nat) (k0 : St → Option (Int × Unit)) (z : den_End_t1) : codeK Try.prog den_End_sp n (cr (cl (cr (bodyOf Try.f11)))) den_End_an.right.left.right (den_End_m1 z) (kSeq k0 den_End_an.right (kFin Try.prog den_End_rs Try.f11)) = den_End_s1 n (fun y => k0 (den_End_m0 y)) z := by
  rw [codeK_R, den_End_e1]
  rfl
def den_End_px (_n : Nat) (k0 : den_End_t0 → Option (Int × Unit)) (k1 : den_End_t1 → Option (Int × Unit)) (x : (D_noonmarkref15_Zone × (Int × Unit))) : Option (Int × Unit) :=
  bif (decide (x.2.1 < 0)) then
    k1 (x.2.1, true, x.1)
  else
    bif (decide (x.2.1 ≥ (List.length x.1.1 : Int))) then
      k1 (x.2.1, true, x.1)
    else
      bif decide (0 ≤ x.2.1) then
        ((x.1.1[Int.toNat x.2.1]?)).bind fun e1 =>
        k1 (x.2.1, (!e1.2.2.2.2.2.1.1), x.1)
      else none
def den_End (n : Nat) (x : (D_noonmarkref15_Zone × (Int × Unit))) : Option (Int × Unit) := den_End_px n (den_End_s0 n) (den_End_s1 n (den_End_s0 n)) x
theorem den_End_ex (n : Nat) (rc : Code → An → St → (Ex → St → Option (Int × Unit)) → Option (Int × Unit)) (x : (D_noonmarkref15_Zone × (Int × Unit))) : codeR rc Try.prog den_End_sp n (bodyOf Try.f11) den_End_an (start den_End_ps x (Func.ntmps Try.f11)) (kFin Try.prog den_End_rs Try.f11) = den_End_px n (fun y => rc (cr (cr (bodyOf Try.f11))) den_End_an.right.right (den_End_m0 y) (kFin Try.prog den_End_rs Try.f11)) (fun y => rc (cr (cl (cr (bodyOf Try.f11)))) den_End_an.right.left.right (den_End_m1 y) (kSeq (fun st => rc (cr (cr (bodyOf Try.f11))) den_End_an.right.right st (kFin Try.prog den_End_rs Try.f11)) den_End_an.right (kFin Try.prog den_End_rs Try.f11))) x := by kernel_rfl
theorem den_End_qx (n : Nat) (x : (D_noonmarkref15_Zone × (Int × Unit))) : codeK Try.prog den_End_sp n (bodyOf Try.f11) den_End_an (start den_End_ps x (Func.ntmps Try.f11)) (kFin Try.prog den_End_rs Try.f11) = den_End n x := by
  have h0 : (fun y => codeK Try.prog den_End_sp n (cr (cr (bodyOf Try.f11))) den_End_an.right.right (den_End_m0 y) (kFin Try.prog den_End_rs Try.f11)) = (den_End_s0 n) := funext fun y => by
    have := den_End_q0 n  y
    exact this
  have h1 : (fun y => codeK Try.prog den_End_sp n (cr (cl (cr (bodyOf Try.f11)))) den_End_an.right.left.right (den_End_m1 y) (kSeq (fun st => codeK Try.prog den_End_sp n (cr (cr (bodyOf Try.f11))) den_End_an.right.right st (kFin Try.prog den_End_rs Try.f11)) den_End_an.right (kFin Try.prog den_End_rs Try.f11))) = (den_End_s1 n (den_End_s0 n)) := funext fun y => by
    have := den_End_q1 n (fun st => codeK Try.prog den_End_sp n (cr (cr (bodyOf Try.f11))) den_End_an.right.right st (kFin Try.prog den_End_rs Try.f11)) y
    rw [h0] at this; exact this
  rw [codeK_R, den_End_ex]
  rw [h0]
  rw [h1]
  rfl
def den_End_spec : Sp := ⟨den_End_ps, den_End_rs, den_End⟩
theorem den_End_ok : SoundX Try.prog CX 11 (.f den_End_spec) := sound_of (look_cons den_Zone_saving_ok (look_cons den_clock_ok look_nil)) Try.func11 (by kernel_rfl) rfl den_End_an den_End_spec rfl rfl den_End_qx

/-! ### noonmark/den.within -/
abbrev den_within_ps : Ty := T_api_At
abbrev den_within_rs : Ty := (.pair .bool .unit)
def den_within_sp : Specs := look []
def den_within_an : An := .o
def den_within_px (_n : Nat) (x : D_api_At) : Option (Bool × Unit) :=
  bif (decide (x.1 ≥ (w64 (0 - x.2.1)))) then
    some ((decide (x.1 ≤ x.2.1)), ())
  else
    some (false, ())
def den_within (n : Nat) (x : D_api_At) : Option (Bool × Unit) := den_within_px n x
theorem den_within_ex (n : Nat) (rc : Code → An → St → (Ex → St → Option (Bool × Unit)) → Option (Bool × Unit)) (x : D_api_At) : codeR rc Try.prog den_within_sp n (bodyOf Try.f31) den_within_an (start den_within_ps x (Func.ntmps Try.f31)) (kFin Try.prog den_within_rs Try.f31) = den_within_px n x := by kernel_rfl
theorem den_within_qx (n : Nat) (x : D_api_At) : codeK Try.prog den_within_sp n (bodyOf Try.f31) den_within_an (start den_within_ps x (Func.ntmps Try.f31)) (kFin Try.prog den_within_rs Try.f31) = den_within n x := by
  rw [codeK_R, den_within_ex]
  rfl
def den_within_spec : Sp := ⟨den_within_ps, den_within_rs, den_within⟩
theorem den_within_ok : SoundX Try.prog CX 31 (.f den_within_spec) := sound_of look_nil Try.func31 (by kernel_rfl) rfl den_within_an den_within_spec rfl rfl den_within_qx

/-! ### noonmark/den.clocked -/
abbrev den_clocked_ps : Ty := (.pair T_api_At .unit)
abbrev den_clocked_rs : Ty := (.pair .bool .unit)
def den_clocked_sp : Specs := look [(31, .f den_within_spec)]
def den_clocked_an : An := .o
def den_clocked_px (n : Nat) (x : (D_api_At × Unit)) : Option (Bool × Unit) :=
  ((den_within n (x.1.1, ((604799 : Int), ())))).bind fun v1 =>
  bif v1.1 then
    bif (decide (x.1.2.1 ≥ 0)) then
      some ((decide (x.1.2.1 ≤ 2)), ())
    else
      some (false, ())
  else
    some (false, ())
def den_clocked (n : Nat) (x : (D_api_At × Unit)) : Option (Bool × Unit) := den_clocked_px n x
theorem den_clocked_ex (n : Nat) (rc : Code → An → St → (Ex → St → Option (Bool × Unit)) → Option (Bool × Unit)) (x : (D_api_At × Unit)) : codeR rc Try.prog den_clocked_sp n (bodyOf Try.f32) den_clocked_an (start den_clocked_ps x (Func.ntmps Try.f32)) (kFin Try.prog den_clocked_rs Try.f32) = den_clocked_px n x := by kernel_rfl
theorem den_clocked_qx (n : Nat) (x : (D_api_At × Unit)) : codeK Try.prog den_clocked_sp n (bodyOf Try.f32) den_clocked_an (start den_clocked_ps x (Func.ntmps Try.f32)) (kFin Try.prog den_clocked_rs Try.f32) = den_clocked n x := by
  rw [codeK_R, den_clocked_ex]
  rfl
def den_clocked_spec : Sp := ⟨den_clocked_ps, den_clocked_rs, den_clocked⟩
theorem den_clocked_ok : SoundX Try.prog CX 32 (.f den_clocked_spec) := sound_of (look_cons den_within_ok look_nil) Try.func32 (by kernel_rfl) rfl den_clocked_an den_clocked_spec rfl rfl den_clocked_qx

/-! ### noonmark/den.fits$1 -/
abbrev den_fits_1_ps : Ty := (.pair T_api_Rule .unit)
abbrev den_fits_1_rs : Ty := (.pair .bool .unit)
def den_fits_1_sp : Specs := look [(31, .f den_within_spec), (32, .f den_clocked_spec)]
def den_fits_1_an : An := .o
def den_fits_1_px (n : Nat) (x : (D_api_Rule × Unit)) : Option (Bool × Unit) :=
  ((den_within n (x.1.2.2.2.2.2.2.1, ((86400 : Int), ())))).bind fun v1 =>
  bif (!v1.1) then
    some (true, ())
  else
    ((den_clocked n (x.1.2.2.2.2.2.1, ()))).bind fun v2 =>
    some ((!v2.1), ())
def den_fits_1 (n : Nat) (x : (D_api_Rule × Unit)) : Option (Bool × Unit) := den_fits_1_px n x
theorem den_fits_1_ex (n : Nat) (rc : Code → An → St → (Ex → St → Option (Bool × Unit)) → Option (Bool × Unit)) (x : (D_api_Rule × Unit)) : codeR rc Try.prog den_fits_1_sp n (bodyOf Try.f34) den_fits_1_an (start den_fits_1_ps x (Func.ntmps Try.f34)) (kFin Try.prog den_fits_1_rs Try.f34) = den_fits_1_px n x := by kernel_rfl
theorem den_fits_1_qx (n : Nat) (x : (D_api_Rule × Unit)) : codeK Try.prog den_fits_1_sp n (bodyOf Try.f34) den_fits_1_an (start den_fits_1_ps x (Func.ntmps Try.f34)) (kFin Try.prog den_fits_1_rs Try.f34) = den_fits_1 n x := by
  rw [codeK_R, den_fits_1_ex]
  rfl
def den_fits_1_spec : Sp := ⟨den_fits_1_ps, den_fits_1_rs, den_fits_1⟩
theorem den_fits_1_ok : SoundX Try.prog CX 34 (.f den_fits_1_spec) := sound_of (look_cons den_within_ok (look_cons den_clocked_ok look_nil)) Try.func34 (by kernel_rfl) rfl den_fits_1_an den_fits_1_spec rfl rfl den_fits_1_qx

/-! ### slices.IndexFunc[[]noonmark/api.Rule,noonmark/api.Rule] -/
abbrev slices_IndexFunc_api_Rule_api_Rule_den_fits_1_ps : Ty := (.pair (.list T_api_Rule) (.pair (.fn 34 0 .unit) .unit))
abbrev slices_IndexFunc_api_Rule_api_Rule_den_fits_1_rs : Ty := (.pair (.int .i64) .unit)
def slices_IndexFunc_api_Rule_api_Rule_den_fits_1_sp : Specs := look [(34, .f den_fits_1_spec)]
def slices_IndexFunc_api_Rule_api_Rule_den_fits_1_an : An := (.s .o (.k [] [] 0 (.k [] [0,1,7,8] 0 .o (.b (.l [] [0,1,7,8] 0 .o))) .o))
abbrev slices_IndexFunc_api_Rule_api_Rule_den_fits_1_t0 := Unit
def slices_IndexFunc_api_Rule_api_Rule_den_fits_1_m0 (_z : slices_IndexFunc_api_Rule_api_Rule_den_fits_1_t0) : St := ⟨[.junk, .junk, .junk, .junk, .junk, .junk, .junk, .junk, .junk, .junk, .junk, .junk, .junk, .junk, .junk, .junk, .junk, .junk, .junk], []⟩
abbrev slices_IndexFunc_api_Rule_api_Rule_den_fits_1_t1 := (List D_api_Rule) × Int × Int
def slices_IndexFunc_api_Rule_api_Rule_den_fits_1_m1 (z : slices_IndexFunc_api_Rule_api_Rule_den_fits_1_t1) : St := ⟨[.v ⟨(.list T_api_Rule), z.1⟩, .v ⟨(.fn 34 0 .unit), ()⟩, .junk, .junk, .junk, .junk, .junk, .v ⟨(.int .i64), z.2.1⟩, .v ⟨(.int .i64), z.2.2⟩, .junk, .junk, .junk, .junk, .junk, .junk, .junk, .junk, .junk, .junk], []⟩
abbrev slices_IndexFunc_api_Rule_api_Rule_den_fits_1_t2 := (List D_api_Rule) × Int × Int
def slices_IndexFunc_api_Rule_api_Rule_den_fits_1_m2 (z : slices_IndexFunc_api_Rule_api_Rule_den_fits_1_t2) : St := ⟨[.v ⟨(.list T_api_Rule), z.1⟩, .v ⟨(.fn 34 0 .unit), ()⟩, .junk, .junk, .junk, .junk, .junk, .v ⟨(.int .i64), z.2.1⟩, .v ⟨(.int .i64), z.2.2⟩, .junk, .junk, .junk, .junk, .junk, .junk, .junk, .junk, .junk, .junk], []⟩
def slices_IndexFunc_api_Rule_api_Rule_den_fits_1_p0 (_n : Nat) (_z : slices_IndexFunc_api_Rule_api_Rule_den_fits_1_t0) : Option (Int × Unit) :=
  some ((-1 : Int), ())
def slices_IndexFunc_api_Rule_api_Rule_den_fits_1_s0 (n : Nat) (z : slices_IndexFunc_api_Rule_api_Rule_den_fits_1_t0) : Option (Int × Unit) := slices_IndexFunc_api_Rule_api_Rule_den_fits_1_p0 n z
theorem slices_IndexFunc_api_Rule_api_Rule_den_fits_1_e0 (n : Nat) (rc : Code → An → St → (Ex → St → Option (Int × Unit)) → Option (Int × Unit)) (z : slices_IndexFunc_api_Rule_api_Rule_den_fits_1_t0) : codeR rc Try.prog slices_IndexFunc_api_Rule_api_Rule_den_fits_1_sp n (cr (cr (bodyOf Try.f51))) slices_IndexFunc_api_Rule_api_Rule_den_fits_1_an.right.right (slices_IndexFunc_api_Rule_api_Rule_den_fits_1_m0 z) (kFin Try.prog slices_IndexFunc_api_Rule_api_Rule_den_fits_1_rs Try.f51) = slices_IndexFunc_api_Rule_api_Rule_den_fits_1_p0 n z := by kernel_rfl
theorem slices_IndexFunc_api_Rule_api_Rule_den_fits_1_q0 (n : Nat) (z : slices_IndexFunc_api_Rule_api_Rule_den_fits_1_t0) : codeK Try.prog slices_IndexFunc_api_Rule_api_Rule_den_fits_1_sp n (cr (cr (bodyOf Try.f51))) slices_IndexFunc_api_Rule_api_Rule_den_fits_1_an.right.right (slices_IndexFunc_api_Rule_api_Rule_den_fits_1_m0 z) (kFin Try.prog slices_IndexFunc_api_Rule_api_Rule_den_fits_1_rs Try.f51) = slices_IndexFunc_api_Rule_api_Rule_den_fits_1_s0 n z := by
  rw [codeK_R, slices_IndexFunc_api_Rule_api_Rule_den_fits_1_e0]
  rfl
def slices_IndexFunc_api_Rule_api_Rule_den_fits_1_p2 (n : Nat) (k0 : slices_IndexFunc_api_Rule_api_Rule_den_fits_1_t0 → Option (Int × Unit)) (r2 : slices_IndexFunc_api_Rule_api_Rule_den_fits_1_t2 → Option (Int × Unit)) (z : slices_IndexFunc_api_Rule_api_Rule_den_fits_1_t2) : Option (Int × Unit) :=
  bif (decide (z.2.2 < z.2.1)) then
    bif decide (0 ≤ z.2.2) then
      ((z.1[Int.toNat z.2.2]?)).bind fun e1 =>
      ((den_fits_1 n (e1, ()))).bind fun v2 =>
      bif v2.1 then
        some (z.2.2, ())
      else
        r2 (z.1, z.2.1, (w64 (z.2.2 + 1)))
    else none
  else
    k0 ()
def slices_IndexFunc_api_Rule_api_Rule_den_fits_1_s2 (n : Nat) (k0 : slices_IndexFunc_api_Rule_api_Rule_den_fits_1_t0 → Option (Int × Unit)) (r2 : slices_IndexFunc_api_Rule_api_Rule_den_fits_1_t2 → Option (Int × Unit)) (z : slices_IndexFunc_api_Rule_api_Rule_den_fits_1_t2) : Option (Int × Unit) := slices_IndexFunc_api_Rule_api_Rule_den_fits_1_p2 n k0 r2 z
theorem slices_IndexFunc_api_Rule_api_Rule_den_fits_1_e2 (n : Nat) (k0 : St → Option (Int × Unit)) (r2 : St → Option (Int × Unit)) (rc : Code → An → St → (Ex → St → Option (Int × Unit)) → Option (Int × Unit)) (z : slices_IndexFunc_api_Rule_api_Rule_den_fits_1_t2) : codeR rc Try.prog slices_IndexFunc_api_Rule_api_Rule_den_fits_1_sp n (cl (cl (cr (cl (cr (bodyOf Try.f51)))))) slices_IndexFunc_api_Rule_api_Rule_den_fits_1_an.right.left.right.left.left (slices_IndexFunc_api_Rule_api_Rule_den_fits_1_m2 z) (kSeq r2 slices_IndexFunc_api_Rule_api_Rule_den_fits_1_an.right.left.right.left (kBlk 0 (kSeq k0 slices_IndexFunc_api_Rule_api_Rule_den_fits_1_an.right (kFin Try.prog slices_IndexFunc_api_Rule_api_Rule_den_fits_1_rs Try.f51)))) = slices_IndexFunc_api_Rule_api_Rule_den_fits_1_p2 n (fun y => k0 (slices_IndexFunc_api_Rule_api_Rule_den_fits_1_m0 y)) (fun y => r2 (slices_IndexFunc_api_Rule_api_Rule_den_fits_1_m2 y)) z := by kernel_rfl
theorem slices_IndexFunc_api_Rule_api_Rule_den_fits_1_q2 (n : Nat) (k0 : St → Option (Int × Unit)) (r2 : St → Option (Int × Unit)) (z : slices_IndexFunc_api_Rule_api_Rule_den_fits_1_t2) : codeK Try.prog slices_IndexFunc_api_Rule_api_Rule_den_fits_1_sp n (cl (cl (cr (cl (cr (bodyOf Try.f51)))))) slices_IndexFunc_api_Rule_api_Rule_den_fits_1_an.right.left.right.left.left (slices_IndexFunc_api_Rule_api_Rule_den_fits_1_m2 z) (kSeq r2 slices_IndexFunc_api_Rule_api_Rule_den_fits_1_an.right.left.right.left (kBlk 0 (kSeq k0 slices_IndexFunc_api_Rule_api_Rule_den_fits_1_an.right (kFin Try.prog slices_IndexFunc_api_Rule_api_Rule_den_fits_1_rs Try.f51)))) = slices_IndexFunc_api_Rule_api_Rule_den_fits_1_s2 n (fun y => k0 (slices_IndexFunc_api_Rule_api_Rule_den_fits_1_m0 y)) (fun y => r2 (slices_IndexFunc_api_Rule_api_Rule_den_fits_1_m2 y)) z := by
  rw [codeK_R, slices_IndexFunc_api_Rule_api_Rule_den_fits_1_e2]
  rfl
def slices_IndexFunc_api_Rule_api_Rule_den_fits_1_s1 (n : Nat) (k0 : slices_IndexFunc_api_Rule_api_Rule_den_fits_1_t0 → Option (Int × Unit)) (z : slices_IndexFunc_api_Rule_api_Rule_den_fits_1_t1) : Option (Int × Unit) :=
  rounds (fun r2 x' => slices_IndexFunc_api_Rule_api_Rule_den_fits_1_s2 n k0 r2 x') n (z.1, z.2.1, z.2.2)
theorem slices_IndexFunc_api_Rule_api_Rule_den_fits_1_q1 (n : Nat) (k0 : St → Option (Int × Unit)) (z : slices_IndexFunc_api_Rule_api_Rule_den_fits_1_t1) : codeK Try.prog slices_IndexFunc_api_Rule_api_Rule_den_fits_1_sp n (cr (cl (cr (bodyOf Try.f51)))) slices_IndexFunc_api_Rule_api_Rule_den_fits_1_an.right.left.right (slices_IndexFunc_api_Rule_api_Rule_den_fits_1_m1 z) (kSeq k0 slices_IndexFunc_api_Rule_api_Rule_den_fits_1_an.right (kFin Try.prog slices_IndexFunc_api_Rule_api_Rule_den_fits_1_rs Try.f51)) = slices_IndexFunc_api_Rule_api_Rule_den_fits_1_s1 n (fun y => k0 (slices_IndexFunc_api_Rule_api_Rule_den_fits_1_m0 y)) z :=
  Eq.trans (b := rounds (fun r2 st => codeK Try.prog slices_IndexFunc_api_Rule_api_Rule_den_fits_1_sp n (cl (cl (cr (cl (cr (bodyOf Try.f51)))))) slices_IndexFunc_api_Rule_api_Rule_den_fits_1_an.right.left.right.left.left st (kSeq r2 slices_IndexFunc_api_Rule_api_Rule_den_fits_1_an.right.left.right.left (kBlk 0 (kSeq k0 slices_IndexFunc_api_Rule_api_Rule_den_fits_1_an.right (kFin Try.prog slices_IndexFunc_api_Rule_api_Rule_den_fits_1_rs Try.f51))))) n (slices_IndexFunc_api_Rule_api_Rule_den_fits_1_m2 (z.1, z.2.1, z.2.2))) (by kernel_rfl) (rounds_mk slices_IndexFunc_api_Rule_api_Rule_den_fits_1_m2 (fun r2 x' => by
    have := (slices_IndexFunc_api_Rule_api_Rule_den_fits_1_q2 n k0 r2 x')
    exact this) n _)
def slices_IndexFunc_api_Rule_api_Rule_den_fits_1_px (_n : Nat) (k0 : slices_IndexFunc_api_Rule_api_Rule_den_fits_1_t0 → Option (Int × Unit)) (k1 : slices_IndexFunc_api_Rule_api_Rule_den_fits_1_t1 → Option (Int × Unit)) (x : ((List D_api_Rule) × (Unit × Unit))) : Option (Int × Unit) :=
  k1 (x.1, (List.length x.1 : Int), (0 : Int))
def slices_IndexFunc_api_Rule_api_Rule_den_fits_1 (n : Nat) (x : ((List D_api_Rule) × (Unit × Unit))) : Option (Int × Unit) := slices_IndexFunc_api_Rule_api_Rule_den_fits_1_px n (slices_IndexFunc_api_Rule_api_Rule_den_fits_1_s0 n) (slices_IndexFunc_api_Rule_api_Rule_den_fits_1_s1 n (slices_IndexFunc_api_Rule_api_Rule_den_fits_1_s0 n)) x
theorem slices_IndexFunc_api_Rule_api_Rule_den_fits_1_ex (n : Nat) (rc : Code → An → St → (Ex → St → Option (Int × Unit)) → Option (Int × Unit)) (x : ((List D_api_Rule) × (Unit × Unit))) : codeR rc Try.prog slices_IndexFunc_api_Rule_api_Rule_den_fits_1_sp n (bodyOf Try.f51) slices_IndexFunc_api_Rule_api_Rule_den_fits_1_an (start slices_IndexFunc_api_Rule_api_Rule_den_fits_1_ps x (Func.ntmps Try.f51)) (kFin Try.prog slices_IndexFunc_api_Rule_api_Rule_den_fits_1_rs Try.f51) = slices_IndexFunc_api_Rule_api_Rule_den_fits_1_px n (fun y => rc (cr (cr (bodyOf Try.f51))) slices_IndexFunc_api_Rule_api_Rule_den_fits_1_an.right.right (slices_IndexFunc_api_Rule_api_Rule_den_fits_1_m0 y) (kFin Try.prog slices_IndexFunc_api_Rule_api_Rule_den_fits_1_rs Try.f51)) (fun y => rc (cr (cl (cr (bodyOf Try.f51)))) slices_IndexFunc_api_Rule_api_Rule_den_fits_1_an.right.left.right (slices_IndexFunc_api_Rule_api_Rule_den_fits_1_m1 y) (kSeq (fun st => rc (cr (cr (bodyOf Try.f51))) slices_IndexFunc_api_Rule_api_Rule_den_fits_1_an.right.right st (kFin Try.prog slices_IndexFunc_api_Rule_api_Rule_den_fits_1_rs Try.f51)) slices_IndexFunc_api_Rule_api_Rule_den_fits_1_an.right (kFin Try.prog slices_IndexFunc_api_Rule_api_Rule_den_fits_1_rs Try.f51))) x := by kernel_rfl
theorem slices_IndexFunc_api_Rule_api_Rule_den_fits_1_qx (n : Nat) (x : ((List D_api_Rule) × (Unit × Unit))) : codeK Try.prog slices_IndexFunc_api_Rule_api_Rule_den_fits_1_sp n (bodyOf Try.f51) slices_IndexFunc_api_Rule_api_Rule_den_fits_1_an (start slices_IndexFunc_api_Rule_api_Rule_den_fits_1_ps x (Func.ntmps Try.f51)) (kFin Try.prog slices_IndexFunc_api_Rule_api_Rule_den_fits_1_rs Try.f51) = slices_IndexFunc_api_Rule_api_Rule_den_fits_1 n x := by
  have h0 : (fun y => codeK Try.prog slices_IndexFunc_api_Rule_api_Rule_den_fits_1_sp n (cr (cr (bodyOf Try.f51))) slices_IndexFunc_api_Rule_api_Rule_den_fits_1_an.right.right (slices_IndexFunc_api_Rule_api_Rule_den_fits_1_m0 y) (kFin Try.prog slices_IndexFunc_api_Rule_api_Rule_den_fits_1_rs Try.f51)) = (slices_IndexFunc_api_Rule_api_Rule_den_fits_1_s0 n) := funext fun y => by
    have := slices_IndexFunc_api_Rule_api_Rule_den_fits_1_q0 n  y
    exact this
  have h1 : (fun y => codeK Try.prog slices_IndexFunc_api_Rule_api_Rule_den_fits_1_sp n (cr (cl (cr (bodyOf Try.f51)))) slices_IndexFunc_api_Rule_api_Rule_den_fits_1_an.right.left.right (slices_IndexFunc_api_Rule_api_Rule_den_fits_1_m1 y) (kSeq (fun st => codeK Try.prog slices_IndexFunc_api_Rule_api_Rule_den_fits_1_sp n (cr (cr (bodyOf Try.f51))) slices_IndexFunc_api_Rule_api_Rule_den_fits_1_an.right.right st (kFin Try.prog slices_IndexFunc_api_Rule_api_Rule_den_fits_1_rs Try.f51)) slices_IndexFunc_api_Rule_api_Rule_den_fits_1_an.right (kFin Try.prog slices_IndexFunc_api_Rule_api_Rule_den_fits_1_rs Try.f51))) = (slices_IndexFunc_api_Rule_api_Rule_den_fits_1_s1 n (slices_IndexFunc_api_Rule_api_Rule_den_fits_1_s0 n)) := funext fun y => by
    have := slices_IndexFunc_api_Rule_api_Rule_den_fits_1_q1 n (fun st => codeK Try.prog slices_IndexFunc_api_Rule_api_Rule_den_fits_1_sp n (cr (cr (bodyOf Try.f51))) slices_IndexFunc_api_Rule_api_Rule_den_fits_1_an.right.right st (kFin Try.prog slices_IndexFunc_api_Rule_api_Rule_den_fits_1_rs Try.f51)) y
    rw [h0] at this; exact this
  rw [codeK_R, slices_IndexFunc_api_Rule_api_Rule_den_fits_1_ex]
  rw [h0]
  rw [h1]
  rfl
def slices_IndexFunc_api_Rule_api_Rule_den_fits_1_spec : Sp := ⟨slices_IndexFunc_api_Rule_api_Rule_den_fits_1_ps, slices_IndexFunc_api_Rule_api_Rule_den_fits_1_rs, slices_IndexFunc_api_Rule_api_Rule_den_fits_1⟩
theorem slices_IndexFunc_api_Rule_api_Rule_den_fits_1_ok : SoundX Try.prog CX 51 (.f slices_IndexFunc_api_Rule_api_Rule_den_fits_1_spec) := sound_of (look_cons den_fits_1_ok look_nil) Try.func51 (by kernel_rfl) rfl slices_IndexFunc_api_Rule_api_Rule_den_fits_1_an slices_IndexFunc_api_Rule_api_Rule_den_fits_1_spec rfl rfl slices_IndexFunc_api_Rule_api_Rule_den_fits_1_qx

/-! ### slices.ContainsFunc[[]noonmark/api.Rule,noonmark/api.Rule] -/
abbrev slices_ContainsFunc_api_Rule_api_Rule_den_fits_1_ps : Ty := (.pair (.list T_api_Rule) (.pair (.fn 34 0 .unit) .unit))
abbrev slices_ContainsFunc_api_Rule_api_Rule_den_fits_1_rs : Ty := (.pair .bool .unit)
def slices_ContainsFunc_api_Rule_api_Rule_den_fits_1_sp : Specs := look [(51, .f slices_IndexFunc_api_Rule_api_Rule_den_fits_1_spec)]
def slices_ContainsFunc_api_Rule_api_Rule_den_fits_1_an : An := .o
def slices_ContainsFunc_api_Rule_api_Rule_den_fits_1_px (n : Nat) (x : ((List D_api_Rule) × (Unit × Unit))) : Option (Bool × Unit) :=
  ((slices_IndexFunc_api_Rule_api_Rule_den_fits_1 n (x.1, (x.2.1, ())))).bind fun v1 =>
  some ((decide (v1.1 ≥ 0)), ())
def slices_ContainsFunc_api_Rule_api_Rule_den_fits_1 (n : Nat) (x : ((List D_api_Rule) × (Unit × Unit))) : Option (Bool × Unit) := slices_ContainsFunc_api_Rule_api_Rule_den_fits_1_px n x
theorem slices_ContainsFunc_api_Rule_api_Rule_den_fits_1_ex (n : Nat) (rc : Code → An → St → (Ex → St → Option (Bool × Unit)) → Option (Bool × Unit)) (x : ((List D_api_Rule) × (Unit × Unit))) : codeR rc Try.prog slices_ContainsFunc_api_Rule_api_Rule_den_fits_1_sp n (bodyOf Try.f33) slices_ContainsFunc_api_Rule_api_Rule_den_fits_1_an (start slices_ContainsFunc_api_Rule_api_Rule_den_fits_1_ps x (Func.ntmps Try.f33)) (kFin Try.prog slices_ContainsFunc_api_Rule_api_Rule_den_fits_1_rs Try.f33) = slices_ContainsFunc_api_Rule_api_Rule_den_fits_1_px n x := by kernel_rfl
theorem slices_ContainsFunc_api_Rule_api_Rule_den_fits_1_qx (n : Nat) (x : ((List D_api_Rule) × (Unit × Unit))) : codeK Try.prog slices_ContainsFunc_api_Rule_api_Rule_den_fits_1_sp n (bodyOf Try.f33) slices_ContainsFunc_api_Rule_api_Rule_den_fits_1_an (start slices_ContainsFunc_api_Rule_api_Rule_den_fits_1_ps x (Func.ntmps Try.f33)) (kFin Try.prog slices_ContainsFunc_api_Rule_api_Rule_den_fits_1_rs Try.f33) = slices_ContainsFunc_api_Rule_api_Rule_den_fits_1 n x := by
  rw [codeK_R, slices_ContainsFunc_api_Rule_api_Rule_den_fits_1_ex]
  rfl
def slices_ContainsFunc_api_Rule_api_Rule_den_fits_1_spec : Sp := ⟨slices_ContainsFunc_api_Rule_api_Rule_den_fits_1_ps, slices_ContainsFunc_api_Rule_api_Rule_den_fits_1_rs, slices_ContainsFunc_api_Rule_api_Rule_den_fits_1⟩
theorem slices_ContainsFunc_api_Rule_api_Rule_den_fits_1_ok : SoundX Try.prog CX 33 (.f slices_ContainsFunc_api_Rule_api_Rule_den_fits_1_spec) := sound_of (look_cons slices_IndexFunc_api_Rule_api_Rule_den_fits_1_ok look_nil) Try.func33 (by kernel_rfl) rfl slices_ContainsFunc_api_Rule_api_Rule_den_fits_1_an slices_ContainsFunc_api_Rule_api_Rule_den_fits_1_spec rfl rfl slices_ContainsFunc_api_Rule_api_Rule_den_fits_1_qx

/-! ### noonmark/den.fits -/
abbrev den_fits_ps : Ty := (.pair T_api_Era (.pair (.list T_api_Rule) .unit))
abbrev den_fits_rs : Ty := (.pair .bool .unit)
def den_fits_sp : Specs := look [(20, .f den_clock_spec), (31, .f den_within_spec), (32, .f den_clocked_spec), (33, .f slices_ContainsFunc_api_Rule_api_Rule_den_fits_1_spec)]
def den_fits_an : An := (.s .o (.k [] [1,2] 1 (.k [] [1,2,36] 1 .o .o) (.k [] [1] 0 .o .o)))
abbrev den_fits_t0 := (List D_api_Rule) × D_api_Era
def den_fits_m0 (z : den_fits_t0) : St := ⟨[.junk, .v ⟨(.list T_api_Rule), z.1⟩, .v ⟨(.ptr 0 0 T_api_Era), ()⟩, .junk, .junk, .junk, .junk, .junk, .junk, .junk, .junk, .junk, .junk, .junk, .junk, .junk, .junk, .junk, .junk, .junk, .junk, .junk, .junk, .junk, .junk, .junk, .junk, .junk, .junk, .junk, .junk, .junk, .junk, .junk, .junk, .junk, .junk, .junk, .junk, .junk, .junk, .junk, .junk, .junk, .junk, .junk, .junk, .junk, .junk, .junk, .junk, .junk, .junk, .junk, .junk, .junk, .junk, .junk], [some (.one ⟨T_api_Era, z.2⟩)]⟩
abbrev den_fits_t1 := (List D_api_Rule) × Bool × D_api_Era
def den_fits_m1 (z : den_fits_t1) : St := ⟨[.junk, .v ⟨(.list T_api_Rule), z.1⟩, .v ⟨(.ptr 0 0 T_api_Era), ()⟩, .junk, .junk, .junk, .junk, .junk, .junk, .junk, .junk, .junk, .junk, .junk, .junk, .junk, .junk, .junk, .junk, .junk, .junk, .junk, .junk, .junk, .junk, .junk, .junk, .junk, .junk, .junk, .junk, .junk, .junk, .junk, .junk, .junk, .v ⟨.bool, z.2.1⟩, .junk, .junk, .junk, .junk, .junk, .junk, .junk, .junk, .junk, .junk, .junk, .junk, .junk, .junk, .junk, .junk, .junk, .junk, .junk, .junk, .junk], [some (.one ⟨T_api_Era, z.2.2⟩)]⟩
abbrev den_fits_t2 := (List D_api_Rule)
def den_fits_m2 (z : den_fits_t2) : St := ⟨[.junk, .v ⟨(.list T_api_Rule), z⟩, .junk, .junk, .junk, .junk, .junk, .junk, .junk, .junk, .junk, .junk, .junk, .junk, .junk, .junk, .junk, .junk, .junk, .junk, .junk, .junk, .junk, .junk, .junk, .junk, .junk, .junk, .junk, .junk, .junk, .junk, .junk, .junk, .junk, .junk, .junk, .junk, .junk, .junk, .junk, .junk, .junk, .junk, .junk, .junk, .junk, .junk, .junk, .junk, .junk, .junk, .junk, .junk, .junk, .junk, .junk, .junk], []⟩
def den_fits_p2 (n : Nat) (z : den_fits_t2) : Option (Bool × Unit) :=
  ((slices_ContainsFunc_api_Rule_api_Rule_den_fits_1 n (z, ((), ())))).bind fun v5 =>
  some ((!v5.1), ())
def den_fits_s2 (n : Nat) (z : den_fits_t2) : Option (Bool × Unit) := den_fits_p2 n z
theorem den_fits_e2 (n : Nat) (rc : Code → An → St → (Ex → St → Option (Bool × Unit)) → Option (Bool × Unit)) (z : den_fits_t2) : codeR rc Try.prog den_fits_sp n (cr (cr (cr (bodyOf Try.f21)))) den_fits_an.right.right.right (den_fits_m2 z) (kFin Try.prog den_fits_rs Try.f21) = den_fits_p2 n z := by kernel_rfl
theorem den_fits_q2 (n : Nat) (z : den_fits_t2) : codeK Try.prog den_fits_sp n (cr (cr (cr (bodyOf Try.f21)))) den_fits_an.right.right.right (den_fits_m2 z) (kFin Try.prog den_fits_rs Try.f21) = den_fits_s2 n z := by
  rw [codeK_R, den_fits_e2]
  rfl
def den_fits_p0 (n : Nat) (k2 : den_fits_t2 → Option (Bool × Unit)) (z : den_fits_t0) : Option (Bool × Unit) :=
  bif z.2.2.2.2.2.2.1.1 then
    ((den_clock n (z.2.2.2.2.2.2.1, ()))).bind fun v3 =>
    bif (!v3.2.1) then
      some (false, ())
    else
      ((den_clocked n (z.2.2.2.2.2.2.1.2.2.2.2.1, ()))).bind fun v4 =>
      bif (!v4.1) then
        some (false, ())
      else
        k2 z.1
  else
    k2 z.1
def den_fits_s0 (n : Nat) (z : den_fits_t0) : Option (Bool × Unit) := den_fits_p0 n (den_fits_s2 n) z
theorem den_fits_e0 (n : Nat) (rc : Code → An → St → (Ex → St → Option (Bool × Unit)) → Option (Bool × Unit)) (z : den_fits_t0) : codeR rc Try.prog den_fits_sp n (cr (cr (bodyOf Try.f21))) den_fits_an.right.right (den_fits_m0 z) (kFin Try.prog den_fits_rs Try.f21) = den_fits_p0 n (fun y => rc (cr (cr (cr (bodyOf Try.f21)))) den_fits_an.right.right.right (den_fits_m2 y) (kFin Try.prog den_fits_rs Try.f21)) z := by kernel_rfl
theorem den_fits_q0 (n : Nat) (z : den_fits_t0) : codeK Try.prog den_fits_sp n (cr (cr (bodyOf Try.f21))) den_fits_an.right.right (den_fits_m0 z) (kFin Try.prog den_fits_rs Try.f21) = den_fits_s0 n z := by
  have h2 : (fun y => codeK Try.prog den_fits_sp n (cr (cr (cr (bodyOf Try.f21)))) den_fits_an.right.right.right (den_fits_m2 y) (kFin Try.prog den_fits_rs Try.f21)) = (den_fits_s2 n) := funext fun y => by
    have := den_fits_q2 n  y
    exact this
  rw [codeK_R, den_fits_e0]
  rw [h2]
  rfl
def den_fits_p1 (_n : Nat) (k0 : den_fits_t0 → Option (Bool × Unit)) (z : den_fits_t1) : Option (Bool × Unit) :=
  bif z.2.1 then
    some (false, ())
  else
    k0 (z.1, z.2.2)
def den_fits_s1 (n : Nat) (k0 : den_fits_t0 → Option (Bool × Unit)) (z : den_fits_t1) : Option (Bool × Unit) := den_fits_p1 n k0 z
theorem den_fits_e1 (n : Nat) (k0 : St → Option (Bool × Unit)) (rc : Code → An → St → (Ex → St → Option (Bool × Unit)) → Option (Bool × Unit)) (z : den_fits_t1) : codeR rc Try.prog den_fits_sp n (cr (cl (cr (bodyOf Try.f21)))) den_fits_an.right.left.right (den_fits_m1 z) (kSeq k0 den_fits_an.right (kFin Try.prog den_fits_rs Try.f21)) = den_fits_p1 n (fun y => k0 (den_fits_m0 y)) z := by kernel_rfl
theorem den_fits_q1 (n : Nat) (k0 : St → Option (Bool × Unit)) (z : den_fits_t1) : codeK Try.prog den_fits_sp n (cr (cl (cr (bodyOf Try.f21)))) den_fits_an.right.left.right (den_fits_m1 z) (kSeq k0 den_fits_an.right (kFin Try.prog den_fits_rs Try.f21)) = den_fits_s1 n (fun y => k0 (den_fits_m0 y)) z := by
  rw [codeK_R, den_fits_e1]
  rfl
def den_fits_px (n : Nat) (k0 : den_fits_t0 → Option (Bool × Unit)) (k1 : den_fits_t1 → Option (Bool × Unit)) (x : (D_api_Era × ((List D_api_Rule) × Unit))) : Option (Bool × Unit) :=
  ((den_within n (x.1.1, ((86400 : Int), ())))).bind fun v1 =>
  bif (!v1.1) then
    k1 (x.2.1, true, x.1)
  else
    bif (decide (x.1.2.1 < 0)) then
      k1 (x.2.1, true, x.1)
    else
      bif (decide (x.1.2.1 > 2)) then
        k1 (x.2.1, true, x.1)
      else
        bif (x.1.2.1 == 1) then
          ((den_within n (x.1.2.2.1, ((86400 : Int), ())))).bind fun v2 =>
          bif (!v2.1) then
            k1 (x.2.1, true, x.1)
          else
            k1 (x.2.1, (decide ((List.length x.2.1 : Int) > 24)), x.1)
        else
          k1 (x.2.1, (decide ((List.length x.2.1 : Int) > 24)), x.1)
def den_fits (n : Nat) (x : (D_api_Era × ((List D_api_Rule) × Unit))) : Option (Bool × Unit) := den_fits_px n (den_fits_s0 n) (den_fits_s1 n (den_fits_s0 n)) x
theorem den_fits_ex (n : Nat) (rc : Code → An → St → (Ex → St → Option (Bool × Unit)) → Option (Bool × Unit)) (x : (D_api_Era × ((List D_api_Rule) × Unit))) : codeR rc Try.prog den_fits_sp n (bodyOf Try.f21) den_fits_an (start den_fits_ps x (Func.ntmps Try.f21)) (kFin Try.prog den_fits_rs Try.f21) = den_fits_px n (fun y => rc (cr (cr (bodyOf Try.f21))) den_fits_an.right.right (den_fits_m0 y) (kFin Try.prog den_fits_rs Try.f21)) (fun y => rc (cr (cl (cr (bodyOf Try.f21)))) den_fits_an.right.left.right (den_fits_m1 y) (kSeq (fun st => rc (cr (cr (bodyOf Try.f21))) den_fits_an.right.right st (kFin Try.prog den_fits_rs Try.f21)) den_fits_an.right (kFin Try.prog den_fits_rs Try.f21))) x := by kernel_rfl
theorem den_fits_qx (n : Nat) (x : (D_api_Era × ((List D_api_Rule) × Unit))) : codeK Try.prog den_fits_sp n (bodyOf Try.f21) den_fits_an (start den_fits_ps x (Func.ntmps Try.f21)) (kFin Try.prog den_fits_rs Try.f21) = den_fits n x := by
  have h0 : (fun y => codeK Try.prog den_fits_sp n (cr (cr (bodyOf Try.f21))) den_fits_an.right.right (den_fits_m0 y) (kFin Try.prog den_fits_rs Try.f21)) = (den_fits_s0 n) := funext fun y => by
    have := den_fits_q0 n  y
    exact this
  have h1 : (fun y => codeK Try.prog den_fits_sp n (cr (cl (cr (bodyOf Try.f21)))) den_fits_an.right.left.right (den_fits_m1 y) (kSeq (fun st => codeK Try.prog den_fits_sp n (cr (cr (bodyOf Try.f21))) den_fits_an.right.right st (kFin Try.prog den_fits_rs Try.f21)) den_fits_an.right (kFin Try.prog den_fits_rs Try.f21))) = (den_fits_s1 n (den_fits_s0 n)) := funext fun y => by
    have := den_fits_q1 n (fun st => codeK Try.prog den_fits_sp n (cr (cr (bodyOf Try.f21))) den_fits_an.right.right st (kFin Try.prog den_fits_rs Try.f21)) y
    rw [h0] at this; exact this
  rw [codeK_R, den_fits_ex]
  rw [h0]
  rw [h1]
  rfl
def den_fits_spec : Sp := ⟨den_fits_ps, den_fits_rs, den_fits⟩
theorem den_fits_ok : SoundX Try.prog CX 21 (.f den_fits_spec) := sound_of (look_cons den_clock_ok (look_cons den_within_ok (look_cons den_clocked_ok (look_cons slices_ContainsFunc_api_Rule_api_Rule_den_fits_1_ok look_nil)))) Try.func21 (by kernel_rfl) rfl den_fits_an den_fits_spec rfl rfl den_fits_qx

/-! ### noonmark/den.Right -/
abbrev den_Right_ps : Ty := (.pair T_noonmarkref15_Zone .unit)
abbrev den_Right_rs : Ty := (.pair (.int .i64) .unit)
def den_Right_sp : Specs := look [(11, .f den_End_spec), (21, .f den_fits_spec)]
def den_Right_an : An := (.s .o (.s .o (.k [] [1,3] 1 (.k [] [1,3,24] 1 .o .o) (.k [] [1,3] 1 (.k [] [1,3,26,27,28] 1 .o (.b (.l [] [1,3,26,27,28] 1 .o))) (.k [] [1,3] 1 (.k [] [1,3,43,44,45] 1 .o (.b (.l [] [1,3,43,44,45] 1 .o))) (.k [] [] 0 (.k [] [1,61,62] 1 .o (.b (.l [] [1,61,62] 1 .o))) .o))))))
abbrev den_Right_t0 := Int × D_noonmarkref15_Zone
def den_Right_m0 (z : den_Right_t0) : St := ⟨[.junk, .v ⟨(.ptr 0 0 T_noonmarkref15_Zone), ()⟩, .junk, .v ⟨(.int .i64), z.1⟩, .junk, .junk, .junk, .junk, .junk, .junk, .junk, .junk, .junk, .junk, .junk, .junk, .junk, .junk, .junk, .junk, .junk, .junk, .junk, .junk, .junk, .junk, .junk, .junk, .junk, .junk, .junk, .junk, .junk, .junk, .junk, .junk, .junk, .junk, .junk, .junk, .junk, .junk, .junk, .junk, .junk, .junk, .junk, .junk, .junk, .junk, .junk, .junk, .junk, .junk, .junk, .junk, .junk, .junk, .junk, .junk, .junk, .junk, .junk, .junk, .junk, .junk, .junk, .junk, .junk, .junk, .junk, .junk, .junk, .junk], [some (.one ⟨T_noonmarkref15_Zone, z.2⟩)]⟩
abbrev den_Right_t1 := Int × Bool × D_noonmarkref15_Zone
def den_Right_m1 (z : den_Right_t1) : St := ⟨[.junk, .v ⟨(.ptr 0 0 T_noonmarkref15_Zone), ()⟩, .junk, .v ⟨(.int .i64), z.1⟩, .junk, .junk, .junk, .junk, .junk, .junk, .junk, .junk, .junk, .junk, .junk, .junk, .junk, .junk, .junk, .junk, .junk, .junk, .junk, .junk, .v ⟨.bool, z.2.1⟩, .junk, .junk, .junk, .junk, .junk, .junk, .junk, .junk, .junk, .junk, .junk, .junk, .junk, .junk, .junk, .junk, .junk, .junk, .junk, .junk, .junk, .junk, .junk, .junk, .junk, .junk, .junk, .junk, .junk, .junk, .junk, .junk, .junk, .junk, .junk, .junk, .junk, .junk, .junk, .junk, .junk, .junk, .junk, .junk, .junk, .junk, .junk, .junk, .junk], [some (.one ⟨T_noonmarkref15_Zone, z.2.2⟩)]⟩
abbrev den_Right_t2 := Int × D_noonmarkref15_Zone
def den_Right_m2 (z : den_Right_t2) : St := ⟨[.junk, .v ⟨(.ptr 0 0 T_noonmarkref15_Zone), ()⟩, .junk, .v ⟨(.int .i64), z.1⟩, .junk, .junk, .junk, .junk, .junk, .junk, .junk, .junk, .junk, .junk, .junk, .junk, .junk, .junk, .junk, .junk, .junk, .junk, .junk, .junk, .junk, .junk, .junk, .junk, .junk, .junk, .junk, .junk, .junk, .junk, .junk, .junk, .junk, .junk, .junk, .junk, .junk, .junk, .junk, .junk, .junk, .junk, .junk, .junk, .junk, .junk, .junk, .junk, .junk, .junk, .junk, .junk, .junk, .junk, .junk, .junk, .junk, .junk, .junk, .junk, .junk, .junk, .junk, .junk, .junk, .junk, .junk, .junk, .junk, .junk], [some (.one ⟨T_noonmarkref15_Zone, z.2⟩)]⟩
abbrev den_Right_t3 := Int × (List D_api_Era) × Int × Int × D_noonmarkref15_Zone
def den_Right_m3 (z : den_Right_t3) : St := ⟨[.junk, .v ⟨(.ptr 0 0 T_noonmarkref15_Zone), ()⟩, .junk, .v ⟨(.int .i64), z.1⟩, .junk, .junk, .junk, .junk, .junk, .junk, .junk, .junk, .junk, .junk, .junk, .junk, .junk, .junk, .junk, .junk, .junk, .junk, .junk, .junk, .junk, .junk, .v ⟨(.list T_api_Era), z.2.1⟩, .v ⟨(.int .i64), z.2.2.1⟩, .v ⟨(.int .i64), z.2.2.2.1⟩, .junk, .junk, .junk, .junk, .junk, .junk, .junk, .junk, .junk, .junk, .junk, .junk, .junk, .junk, .junk, .junk, .junk, .junk, .junk, .junk, .junk, .junk, .junk, .junk, .junk, .junk, .junk, .junk, .junk, .junk, .junk, .junk, .junk, .junk, .junk, .junk, .junk, .junk, .junk, .junk, .junk, .junk, .junk, .junk, .junk], [some (.one ⟨T_noonmarkref15_Zone, z.2.2.2.2⟩)]⟩
abbrev den_Right_t4 := Int × (List D_api_Era) × Int × Int × D_noonmarkref15_Zone
def den_Right_m4 (z : den_Right_t4) : St := ⟨[.junk, .v ⟨(.ptr 0 0 T_noonmarkref15_Zone), ()⟩, .junk, .v ⟨(.int .i64), z.1⟩, .junk, .junk, .junk, .junk, .junk, .junk, .junk, .junk, .junk, .junk, .junk, .junk, .junk, .junk, .junk, .junk, .junk, .junk, .junk, .junk, .junk, .junk, .v ⟨(.list T_api_Era), z.2.1⟩, .v ⟨(.int .i64), z.2.2.1⟩, .v ⟨(.int .i64), z.2.2.2.1⟩, .junk, .junk, .junk, .junk, .junk, .junk, .junk, .junk, .junk, .junk, .junk, .junk, .junk, .junk, .junk, .junk, .junk, .junk, .junk, .junk, .junk, .junk, .junk, .junk, .junk, .junk, .junk, .junk, .junk, .junk, .junk, .junk, .junk, .junk, .junk, .junk, .junk, .junk, .junk, .junk, .junk, .junk, .junk, .junk, .junk], [some (.one ⟨T_noonmarkref15_Zone, z.2.2.2.2⟩)]⟩
abbrev den_Right_t5 := Int × D_noonmarkref15_Zone
def den_Right_m5 (z : den_Right_t5) : St := ⟨[.junk, .v ⟨(.ptr 0 0 T_noonmarkref15_Zone), ()⟩, .junk, .v ⟨(.int .i64), z.1⟩, .junk, .junk, .junk, .junk, .junk, .junk, .junk, .junk, .junk, .junk, .junk, .junk, .junk, .junk, .junk, .junk, .junk, .junk, .junk, .junk, .junk, .junk, .junk, .junk, .junk, .junk, .junk, .junk, .junk, .junk, .junk, .junk, .junk, .junk, .junk, .junk, .junk, .junk, .junk, .junk, .junk, .junk, .junk, .junk, .junk, .junk, .junk, .junk, .junk, .junk, .junk, .junk, .junk, .junk, .junk, .junk, .junk, .junk, .junk, .junk, .junk, .junk, .junk, .junk, .junk, .junk, .junk, .junk, .junk, .junk], [some (.one ⟨T_noonmarkref15_Zone, z.2⟩)]⟩
abbrev den_Right_t6 := Int × (List D_api_Era) × Int × Int × D_noonmarkref15_Zone
def den_Right_m6 (z : den_Right_t6) : St := ⟨[.junk, .v ⟨(.ptr 0 0 T_noonmarkref15_Zone), ()⟩, .junk, .v ⟨(.int .i64), z.1⟩, .junk, .junk, .junk, .junk, .junk, .junk, .junk, .junk, .junk, .junk, .junk, .junk, .junk, .junk, .junk, .junk, .junk, .junk, .junk, .junk, .junk, .junk, .junk, .junk, .junk, .junk, .junk, .junk, .junk, .junk, .junk, .junk, .junk, .junk, .junk, .junk, .junk, .junk, .junk, .v ⟨(.list T_api_Era), z.2.1⟩, .v ⟨(.int .i64), z.2.2.1⟩, .v ⟨(.int .i64), z.2.2.2.1⟩, .junk, .junk, .junk, .junk, .junk, .junk, .junk, .junk, .junk, .junk, .junk, .junk, .junk, .junk, .junk, .junk, .junk, .junk, .junk, .junk, .junk, .junk, .junk, .junk, .junk, .junk, .junk, .junk], [some (.one ⟨T_noonmarkref15_Zone, z.2.2.2.2⟩)]⟩
abbrev den_Right_t7 := Int × (List D_api_Era) × Int × Int × D_noonmarkref15_Zone
def den_Right_m7 (z : den_Right_t7) : St := ⟨[.junk, .v ⟨(.ptr 0 0 T_noonmarkref15_Zone), ()⟩, .junk, .v ⟨(.int .i64), z.1⟩, .junk, .junk, .junk, .junk, .junk, .junk, .junk, .junk, .junk, .junk, .junk, .junk, .junk, .junk, .junk, .junk, .junk, .junk, .junk, .junk, .junk, .junk, .junk, .junk, .junk, .junk, .junk, .junk, .junk, .junk, .junk, .junk, .junk, .junk, .junk, .junk, .junk, .junk, .junk, .v ⟨(.list T_api_Era), z.2.1⟩, .v ⟨(.int .i64), z.2.2.1⟩, .v ⟨(.int .i64), z.2.2.2.1⟩, .junk, .junk, .junk, .junk, .junk, .junk, .junk, .junk, .junk, .junk, .junk, .junk, .junk, .junk, .junk, .junk, .junk, .junk, .junk, .junk, .junk, .junk, .junk, .junk, .junk, .junk, .junk, .junk], [some (.one ⟨T_noonmarkref15_Zone, z.2.2.2.2⟩)]⟩
abbrev den_Right_t8 := Unit
def den_Right_m8 (_z : den_Right_t8) : St := ⟨[.junk, .junk, .junk, .junk, .junk, .junk, .junk, .junk, .junk, .junk, .junk, .junk, .junk, .junk, .junk, .junk, .junk, .junk, .junk, .junk, .junk, .junk, .junk, .junk, .junk, .junk, .junk, .junk, .junk, .junk, .junk, .junk, .junk, .junk, .junk, .junk, .junk, .junk, .junk, .junk, .junk, .junk, .junk, .junk, .junk, .junk, .junk, .junk, .junk, .junk, .junk, .junk, .junk, .junk, .junk, .junk, .junk, .junk, .junk, .junk, .junk, .junk, .junk, .junk, .junk, .junk, .junk, .junk, .junk, .junk, .junk, .junk, .junk, .junk], []⟩
abbrev den_Right_t9 := Int × Int × D_noonmarkref15_Zone
def den_Right_m9 (z : den_Right_t9) : St := ⟨[.junk, .v ⟨(.ptr 0 0 T_noonmarkref15_Zone), ()⟩, .junk, .junk, .junk, .junk, .junk, .junk, .junk, .junk, .junk, .junk, .junk, .junk, .junk, .junk, .junk, .junk, .junk, .junk, .junk, .junk, .junk, .junk, .junk, .junk, .junk, .junk, .junk, .junk, .junk, .junk, .junk, .junk, .junk, .junk, .junk, .junk, .junk, .junk, .junk, .junk, .junk, .junk, .junk, .junk, .junk, .junk, .junk, .junk, .junk, .junk, .junk, .junk, .junk, .junk, .junk, .junk, .junk, .junk, .junk, .v ⟨(.int .i64), z.1⟩, .v ⟨(.int .i64), z.2.1⟩, .junk, .junk, .junk, .junk, .junk, .junk, .junk, .junk, .junk, .junk, .junk], [some (.one ⟨T_noonmarkref15_Zone, z.2.2⟩)]⟩
abbrev den_Right_t10 := Int × Int × D_noonmarkref15_Zone
def den_Right_m10 (z : den_Right_t10) : St := ⟨[.junk, .v ⟨(.ptr 0 0 T_noonmarkref15_Zone), ()⟩, .junk, .junk, .junk, .junk, .junk, .junk, .junk, .junk, .junk, .junk, .junk, .junk, .junk, .junk, .junk, .junk, .junk, .junk, .junk, .junk, .junk, .junk, .junk, .junk, .junk, .junk, .junk, .junk, .junk, .junk, .junk, .junk, .junk, .junk, .junk, .junk, .junk, .junk, .junk, .junk, .junk, .junk, .junk, .junk, .junk, .junk, .junk, .junk, .junk, .junk, .junk, .junk, .junk, .junk, .junk, .junk, .junk, .junk, .junk, .v ⟨(.int .i64), z.1⟩, .v ⟨(.int .i64), z.2.1⟩, .junk, .junk, .junk, .junk, .junk, .junk, .junk, .junk, .junk, .junk, .junk], [some (.one ⟨T_noonmarkref15_Zone, z.2.2⟩)]⟩
def den_Right_p8 (_n : Nat) (_z : den_Right_t8) : Option (Int × Unit) :=
  some ((0 : Int), ())
def den_Right_s8 (n : Nat) (z : den_Right_t8) : Option (Int × Unit) := den_Right_p8 n z
theorem den_Right_e8 (n : Nat) (rc : Code → An → St → (Ex → St → Option (Int × Unit)) → Option (Int × Unit)) (z : den_Right_t8) : codeR rc Try.prog den_Right_sp n (cr (cr (cr (cr (cr (cr (bodyOf Try.f13))))))) den_Right_an.right.right.right.right.right.right (den_Right_m8 z) (kFin Try.prog den_Right_rs Try.f13) = den_Right_p8 n z := by kernel_rfl
theorem den_Right_q8 (n : Nat) (z : den_Right_t8) : codeK Try.prog den_Right_sp n (cr (cr (cr (cr (cr (cr (bodyOf Try.f13))))))) den_Right_an.right.right.right.right.right.right (den_Right_m8 z) (kFin Try.prog den_Right_rs Try.f13) = den_Right_s8 n z := by
  rw [codeK_R, den_Right_e8]
  rfl
def den_Right_p10 (n : Nat) (k8 : den_Right_t8 → Option (Int × Unit)) (r10 : den_Right_t10 → Option (Int × Unit)) (z : den_Right_t10) : Option (Int × Unit) :=
  bif (decide (z.2.1 < z.1)) then
    ((den_End n (z.2.2, (z.2.1, ())))).bind fun v10 =>
    ((den_End n (z.2.2, ((w64 (z.2.1 + 1)), ())))).bind fun v12 =>
    bif (decide (v10.1 ≥ v12.1)) then
      some ((14 : Int), ())
    else
      r10 (z.1, (w64 (z.2.1 + 1)), z.2.2)
  else
    k8 ()
def den_Right_s10 (n : Nat) (k8 : den_Right_t8 → Option (Int × Unit)) (r10 : den_Right_t10 → Option (Int × Unit)) (z : den_Right_t10) : Option (Int × Unit) := den_Right_p10 n k8 r10 z
theorem den_Right_e10 (n : Nat) (k8 : St → Option (Int × Unit)) (r10 : St → Option (Int × Unit)) (rc : Code → An → St → (Ex → St → Option (Int × Unit)) → Option (Int × Unit)) (z : den_Right_t10) : codeR rc Try.prog den_Right_sp n (cl (cl (cr (cl (cr (cr (cr (cr (cr (bodyOf Try.f13)))))))))) den_Right_an.right.right.right.right.right.left.right.left.left (den_Right_m10 z) (kSeq r10 den_Right_an.right.right.right.right.right.left.right.left (kBlk 4 (kSeq k8 den_Right_an.right.right.right.right.right (kFin Try.prog den_Right_rs Try.f13)))) = den_Right_p10 n (fun y => k8 (den_Right_m8 y)) (fun y => r10 (den_Right_m10 y)) z := by kernel_rfl
theorem den_Right_q10 (n : Nat) (k8 : St → Option (Int × Unit)) (r10 : St → Option (Int × Unit)) (z : den_Right_t10) : codeK Try.prog den_Right_sp n (cl (cl (cr (cl (cr (cr (cr (cr (cr (bodyOf Try.f13)))))))))) den_Right_an.right.right.right.right.right.left.right.left.left (den_Right_m10 z) (kSeq r10 den_Right_an.right.right.right.right.right.left.right.left (kBlk 4 (kSeq k8 den_Right_an.right.right.right.right.right (kFin Try.prog den_Right_rs Try.f13)))) = den_Right_s10 n (fun y => k8 (den_Right_m8 y)) (fun y => r10 (den_Right_m10 y)) z := by
  rw [codeK_R, den_Right_e10]
  rfl
def den_Right_s9 (n : Nat) (k8 : den_Right_t8 → Option (Int × Unit)) (z : den_Right_t9) : Option (Int × Unit) :=
  rounds (fun r10 x' => den_Right_s10 n k8 r10 x') n (z.1, z.2.1, z.2.2)
theorem den_Right_q9 (n : Nat) (k8 : St → Option (Int × Unit)) (z : den_Right_t9) : codeK Try.prog den_Right_sp n (cr (cl (cr (cr (cr (cr (cr (bodyOf Try.f13)))))))) den_Right_an.right.right.right.right.right.left.right (den_Right_m9 z) (kSeq k8 den_Right_an.right.right.right.right.right (kFin Try.prog den_Right_rs Try.f13)) = den_Right_s9 n (fun y => k8 (den_Right_m8 y)) z :=
  Eq.trans (b := rounds (fun r10 st => codeK Try.prog den_Right_sp n (cl (cl (cr (cl (cr (cr (cr (cr (cr (bodyOf Try.f13)))))))))) den_Right_an.right.right.right.right.right.left.right.left.left st (kSeq r10 den_Right_an.right.right.right.right.right.left.right.left (kBlk 4 (kSeq k8 den_Right_an.right.right.right.right.right (kFin Try.prog den_Right_rs Try.f13))))) n (den_Right_m10 (z.1, z.2.1, z.2.2))) (by kernel_rfl) (rounds_mk den_Right_m10 (fun r10 x' => by
    have := (den_Right_q10 n k8 r10 x')
    exact this) n _)
def den_Right_p5 (_n : Nat) (k8 : den_Right_t8 → Option (Int × Unit)) (k9 : den_Right_t9 → Option (Int × Unit)) (z : den_Right_t5) : Option (Int × Unit) :=
  k9 ((imax (w64 (z.1 - 2)) (0 : Int)), (0 : Int), z.2)
def den_Right_s5 (n : Nat) (z : den_Right_t5) : Option (Int × Unit) := den_Right_p5 n (den_Right_s8 n) (den_Right_s9 n (den_Right_s8 n)) z
theorem den_Right_e5 (n : Nat) (rc : Code → An → St → (Ex → St → Option (Int × Unit)) → Option (Int × Unit)) (z : den_Right_t5) : codeR rc Try.prog den_Right_sp n (cr (cr (cr (cr (cr (bodyOf Try.f13)))))) den_Right_an.right.right.right.right.right (den_Right_m5 z) (kFin Try.prog den_Right_rs Try.f13) = den_Right_p5 n (fun y => rc (cr (cr (cr (cr (cr (cr (bodyOf Try.f13))))))) den_Right_an.right.right.right.right.right.right (den_Right_m8 y) (kFin Try.prog den_Right_rs Try.f13)) (fun y => rc (cr (cl (cr (cr (cr (cr (cr (bodyOf Try.f13)))))))) den_Right_an.right.right.right.right.right.left.right (den_Right_m9 y) (kSeq (fun st => rc (cr (cr (cr (cr (cr (cr (bodyOf Try.f13))))))) den_Right_an.right.right.right.right.right.right st (kFin Try.prog den_Right_rs Try.f13)) den_Right_an.right.right.right.right.right (kFin Try.prog den_Right_rs Try.f13))) z := by kernel_rfl
theorem den_Right_q5 (n : Nat) (z : den_Right_t5) : codeK Try.prog den_Right_sp n (cr (cr (cr (cr (cr (bodyOf Try.f13)))))) den_Right_an.right.right.right.right.right (den_Right_m5 z) (kFin Try.prog den_Right_rs Try.f13) = den_Right_s5 n z := by
  have h8 : (fun y => codeK Try.prog den_Right_sp n (cr (cr (cr (cr (cr (cr (bodyOf Try.f13))))))) den_Right_an.right.right.right.right.right.right (den_Right_m8 y) (kFin Try.prog den_Right_rs Try.f13)) = (den_Right_s8 n) := funext fun y => by
    have := den_Right_q8 n  y
    exact this
  have h9 : (fun y => codeK Try.prog den_Right_sp n (cr (cl (cr (cr (cr (cr (cr (bodyOf Try.f13)))))))) den_Right_an.right.right.right.right.right.left.right (den_Right_m9 y) (kSeq (fun st => codeK Try.prog den_Right_sp n (cr (cr (cr (cr (cr (cr (bodyOf Try.f13))))))) den_Right_an.right.right.right.right.right.right st (kFin Try.prog den_Right_rs Try.f13)) den_Right_an.right.right.right.right.right (kFin Try.prog den_Right_rs Try.f13))) = (den_Right_s9 n (den_Right_s8 n)) := funext fun y => by
    have := den_Right_q9 n (fun st => codeK Try.prog den_Right_sp n (cr (cr (cr (cr (cr (cr (bodyOf Try.f13))))))) den_Right_an.right.right.right.right.right.right st (kFin Try.prog den_Right_rs Try.f13)) y
    rw [h8] at this; exact this
  rw [codeK_R, den_Right_e5]
  rw [h8]
  rw [h9]
  rfl
def den_Right_p7 (_n : Nat) (k5 : den_Right_t5 → Option (Int × Unit)) (r7 : den_Right_t7 → Option (Int × Unit)) (z : den_Right_t7) : Option (Int × Unit) :=
  bif (decide (z.2.2.2.1 < z.2.2.1)) then
    bif decide (0 ≤ z.2.2.2.1) then
      ((z.2.1[Int.toNat z.2.2.2.1]?)).bind fun e5 =>
      bif (e5.2.2.2.2.2.1.1 == (z.2.2.2.1 == (w64 (z.1 - 1)))) then
        some ((21 : Int), ())
      else
        r7 (z.1, z.2.1, z.2.2.1, (w64 (z.2.2.2.1 + 1)), z.2.2.2.2)
    else none
  else
    k5 (z.1, z.2.2.2.2)
def den_Right_s7 (n : Nat) (k5 : den_Right_t5 → Option (Int × Unit)) (r7 : den_Right_t7 → Option (Int × Unit)) (z : den_Right_t7) : Option (Int × Unit) := den_Right_p7 n k5 r7 z
theorem den_Right_e7 (n : Nat) (k5 : St → Option (Int × Unit)) (r7 : St → Option (Int × Unit)) (rc : Code → An → St → (Ex → St → Option (Int × Unit)) → Option (Int × Unit)) (z : den_Right_t7) : codeR rc Try.prog den_Right_sp n (cl (cl (cr (cl (cr (cr (cr (cr (bodyOf Try.f13))))))))) den_Right_an.right.right.right.right.left.right.left.left (den_Right_m7 z) (kSeq r7 den_Right_an.right.right.right.right.left.right.left (kBlk 2 (kSeq k5 den_Right_an.right.right.right.right (kFin Try.prog den_Right_rs Try.f13)))) = den_Right_p7 n (fun y => k5 (den_Right_m5 y)) (fun y => r7 (den_Right_m7 y)) z := by kernel_rfl
theorem den_Right_q7 (n : Nat) (k5 : St → Option (Int × Unit)) (r7 : St → Option (Int × Unit)) (z : den_Right_t7) : codeK Try.prog den_Right_sp n (cl (cl (cr (cl (cr (cr (cr (cr (bodyOf Try.f13))))))))) den_Right_an.right.right.right.right.left.right.left.left (den_Right_m7 z) (kSeq r7 den_Right_an.right.right.right.right.left.right.left (kBlk 2 (kSeq k5 den_Right_an.right.right.right.right (kFin Try.prog den_Right_rs Try.f13)))) = den_Right_s7 n (fun y => k5 (den_Right_m5 y)) (fun y => r7 (den_Right_m7 y)) z := by
  rw [codeK_R, den_Right_e7]
  rfl
def den_Right_s6 (n : Nat) (k5 : den_Right_t5 → Option (Int × Unit)) (z : den_Right_t6) : Option (Int × Unit) :=
  rounds (fun r7 x' => den_Right_s7 n k5 r7 x') n (z.1, z.2.1, z.2.2.1, z.2.2.2.1, z.2.2.2.2)
theorem den_Right_q6 (n : Nat) (k5 : St → Option (Int × Unit)) (z : den_Right_t6) : codeK Try.prog den_Right_sp n (cr (cl (cr (cr (cr (cr (bodyOf Try.f13))))))) den_Right_an.right.right.right.right.left.right (den_Right_m6 z) (kSeq k5 den_Right_an.right.right.right.right (kFin Try.prog den_Right_rs Try.f13)) = den_Right_s6 n (fun y => k5 (den_Right_m5 y)) z :=
  Eq.trans (b := rounds (fun r7 st => codeK Try.prog den_Right_sp n (cl (cl (cr (cl (cr (cr (cr (cr (bodyOf Try.f13))))))))) den_Right_an.right.right.right.right.left.right.left.left st (kSeq r7 den_Right_an.right.right.right.right.left.right.left (kBlk 2 (kSeq k5 den_Right_an.right.right.right.right (kFin Try.prog den_Right_rs Try.f13))))) n (den_Right_m7 (z.1, z.2.1, z.2.2.1, z.2.2.2.1, z.2.2.2.2))) (by kernel_rfl) (rounds_mk den_Right_m7 (fun r7 x' => by
    have := (den_Right_q7 n k5 r7 x')
    exact this) n _)
def den_Right_p2 (_n : Nat) (k5 : den_Right_t5 → Option (Int × Unit)) (k6 : den_Right_t6 → Option (Int × Unit)) (z : den_Right_t2) : Option (Int × Unit) :=
  k6 (z.1, z.2.1, (List.length z.2.1 : Int), (0 : Int), z.2)
def den_Right_s2 (n : Nat) (z : den_Right_t2) : Option (Int × Unit) := den_Right_p2 n (den_Right_s5 n) (den_Right_s6 n (den_Right_s5 n)) z
theorem den_Right_e2 (n : Nat) (rc : Code → An → St → (Ex → St → Option (Int × Unit)) → Option (Int × Unit)) (z : den_Right_t2) : codeR rc Try.prog den_Right_sp n (cr (cr (cr (cr (bodyOf Try.f13))))) den_Right_an.right.right.right.right (den_Right_m2 z) (kFin Try.prog den_Right_rs Try.f13) = den_Right_p2 n (fun y => rc (cr (cr (cr (cr (cr (bodyOf Try.f13)))))) den_Right_an.right.right.right.right.right (den_Right_m5 y) (kFin Try.prog den_Right_rs Try.f13)) (fun y => rc (cr (cl (cr (cr (cr (cr (bodyOf Try.f13))))))) den_Right_an.right.right.right.right.left.right (den_Right_m6 y) (kSeq (fun st => rc (cr (cr (cr (cr (cr (bodyOf Try.f13)))))) den_Right_an.right.right.right.right.right st (kFin Try.prog den_Right_rs Try.f13)) den_Right_an.right.right.right.right (kFin Try.prog den_Right_rs Try.f13))) z := by kernel_rfl
theorem den_Right_q2 (n : Nat) (z : den_Right_t2) : codeK Try.prog den_Right_sp n (cr (cr (cr (cr (bodyOf Try.f13))))) den_Right_an.right.right.right.right (den_Right_m2 z) (kFin Try.prog den_Right_rs Try.f13) = den_Right_s2 n z := by
  have h5 : (fun y => codeK Try.prog den_Right_sp n (cr (cr (cr (cr (cr (bodyOf Try.f13)))))) den_Right_an.right.right.right.right.right (den_Right_m5 y) (kFin Try.prog den_Right_rs Try.f13)) = (den_Right_s5 n) := funext fun y => by
    have := den_Right_q5 n  y
    exact this
  have h6 : (fun y => codeK Try.prog den_Right_sp n (cr (cl (cr (cr (cr (cr (bodyOf Try.f13))))))) den_Right_an.right.right.right.right.left.right (den_Right_m6 y) (kSeq (fun st => codeK Try.prog den_Right_sp n (cr (cr (cr (cr (cr (bodyOf Try.f13)))))) den_Right_an.right.right.right.right.right st (kFin Try.prog den_Right_rs Try.f13)) den_Right_an.right.right.right.right (kFin Try.prog den_Right_rs Try.f13))) = (den_Right_s6 n (den_Right_s5 n)) := funext fun y => by
    have := den_Right_q6 n (fun st => codeK Try.prog den_Right_sp n (cr (cr (cr (cr (cr (bodyOf Try.f13)))))) den_Right_an.right.right.right.right.right st (kFin Try.prog den_Right_rs Try.f13)) y
    rw [h5] at this; exact this
  rw [codeK_R, den_Right_e2]
  rw [h5]
  rw [h6]
  rfl
def den_Right_p4 (n : Nat) (k2 : den_Right_t2 → Option (Int × Unit)) (r4 : den_Right_t4 → Option (Int × Unit)) (z : den_Right_t4) : Option (Int × Unit) :=
  bif (decide (z.2.2.2.1 < z.2.2.1)) then
    bif decide (0 ≤ z.2.2.2.1) then
      ((z.2.1[Int.toNat z.2.2.2.1]?)).bind fun e1 =>
      bif decide (0 ≤ z.2.2.2.1) then
        ((z.2.2.2.2.2.1[Int.toNat z.2.2.2.1]?)).bind fun e2 =>
        ((den_fits n (e1, (e2, ())))).bind fun v3 =>
        bif (!v3.1) then
          some ((1 : Int), ())
        else
          r4 (z.1, z.2.1, z.2.2.1, (w64 (z.2.2.2.1 + 1)), z.2.2.2.2)
      else none
    else none
  else
    k2 (z.1, z.2.2.2.2)
def den_Right_s4 (n : Nat) (k2 : den_Right_t2 → Option (Int × Unit)) (r4 : den_Right_t4 → Option (Int × Unit)) (z : den_Right_t4) : Option (Int × Unit) := den_Right_p4 n k2 r4 z
theorem den_Right_e4 (n : Nat) (k2 : St → Option (Int × Unit)) (r4 : St → Option (Int × Unit)) (rc : Code → An → St → (Ex → St → Option (Int × Unit)) → Option (Int × Unit)) (z : den_Right_t4) : codeR rc Try.prog den_Right_sp n (cl (cl (cr (cl (cr (cr (cr (bodyOf Try.f13)))))))) den_Right_an.right.right.right.left.right.left.left (den_Right_m4 z) (kSeq r4 den_Right_an.right.right.right.left.right.left (kBlk 0 (kSeq k2 den_Right_an.right.right.right (kFin Try.prog den_Right_rs Try.f13)))) = den_Right_p4 n (fun y => k2 (den_Right_m2 y)) (fun y => r4 (den_Right_m4 y)) z := by kernel_rfl
theorem den_Right_q4 (n : Nat) (k2 : St → Option (Int × Unit)) (r4 : St → Option (Int × Unit)) (z : den_Right_t4) : codeK Try.prog den_Right_sp n (cl (cl (cr (cl (cr (cr (cr (bodyOf Try.f13)))))))) den_Right_an.right.right.right.left.right.left.left (den_Right_m4 z) (kSeq r4 den_Right_an.right.right.right.left.right.left (kBlk 0 (kSeq k2 den_Right_an.right.right.right (kFin Try.prog den_Right_rs Try.f13)))) = den_Right_s4 n (fun y => k2 (den_Right_m2 y)) (fun y => r4 (den_Right_m4 y)) z := by
  rw [codeK_R, den_Right_e4]
  rfl
def den_Right_s3 (n : Nat) (k2 : den_Right_t2 → Option (Int × Unit)) (z : den_Right_t3) : Option (Int × Unit) :=
  rounds (fun r4 x' => den_Right_s4 n k2 r4 x') n (z.1, z.2.1, z.2.2.1, z.2.2.2.1, z.2.2.2.2)
theorem den_Right_q3 (n : Nat) (k2 : St → Option (Int × Unit)) (z : den_Right_t3) : codeK Try.prog den_Right_sp n (cr (cl (cr (cr (cr (bodyOf Try.f13)))))) den_Right_an.right.right.right.left.right (den_Right_m3 z) (kSeq k2 den_Right_an.right.right.right (kFin Try.prog den_Right_rs Try.f13)) = den_Right_s3 n (fun y => k2 (den_Right_m2 y)) z :=
  Eq.trans (b := rounds (fun r4 st => codeK Try.prog den_Right_sp n (cl (cl (cr (cl (cr (cr (cr (bodyOf Try.f13)))))))) den_Right_an.right.right.right.left.right.left.left st (kSeq r4 den_Right_an.right.right.right.left.right.left (kBlk 0 (kSeq k2 den_Right_an.right.right.right (kFin Try.prog den_Right_rs Try.f13))))) n (den_Right_m4 (z.1, z.2.1, z.2.2.1, z.2.2.2.1, z.2.2.2.2))) (by kernel_rfl) (rounds_mk den_Right_m4 (fun r4 x' => by
    have := (den_Right_q4 n k2 r4 x')
    exact this) n _)
def den_Right_p0 (_n : Nat) (k2 : den_Right_t2 → Option (Int × Unit)) (k3 : den_Right_t3 → Option (Int × Unit)) (z : den_Right_t0) : Option (Int × Unit) :=
  k3 (z.1, z.2.1, (List.length z.2.1 : Int), (0 : Int), z.2)
def den_Right_s0 (n : Nat) (z : den_Right_t0) : Option (Int × Unit) := den_Right_p0 n (den_Right_s2 n) (den_Right_s3 n (den_Right_s2 n)) z
theorem den_Right_e0 (n : Nat) (rc : Code → An → St → (Ex → St → Option (Int × Unit)) → Option (Int × Unit)) (z : den_Right_t0) : codeR rc Try.prog den_Right_sp n (cr (cr (cr (bodyOf Try.f13)))) den_Right_an.right.right.right (den_Right_m0 z) (kFin Try.prog den_Right_rs Try.f13) = den_Right_p0 n (fun y => rc (cr (cr (cr (cr (bodyOf Try.f13))))) den_Right_an.right.right.right.right (den_Right_m2 y) (kFin Try.prog den_Right_rs Try.f13)) (fun y => rc (cr (cl (cr (cr (cr (bodyOf Try.f13)))))) den_Right_an.right.right.right.left.right (den_Right_m3 y) (kSeq (fun st => rc (cr (cr (cr (cr (bodyOf Try.f13))))) den_Right_an.right.right.right.right st (kFin Try.prog den_Right_rs Try.f13)) den_Right_an.right.right.right (kFin Try.prog den_Right_rs Try.f13))) z := by kernel_rfl
theorem den_Right_q0 (n : Nat) (z : den_Right_t0) : codeK Try.prog den_Right_sp n (cr (cr (cr (bodyOf Try.f13)))) den_Right_an.right.right.right (den_Right_m0 z) (kFin Try.prog den_Right_rs Try.f13) = den_Right_s0 n z := by
  have h2 : (fun y => codeK Try.prog den_Right_sp n (cr (cr (cr (cr (bodyOf Try.f13))))) den_Right_an.right.right.right.right (den_Right_m2 y) (kFin Try.prog den_Right_rs Try.f13)) = (den_Right_s2 n) := funext fun y => by
    have := den_Right_q2 n  y
    exact this
  have h3 : (fun y => codeK Try.prog den_Right_sp n (cr (cl (cr (cr (cr (bodyOf Try.f13)))))) den_Right_an.right.right.right.left.right (den_Right_m3 y) (kSeq (fun st => codeK Try.prog den_Right_sp n (cr (cr (cr (cr (bodyOf Try.f13))))) den_Right_an.right.right.right.right st (kFin Try.prog den_Right_rs Try.f13)) den_Right_an.right.right.right (kFin Try.prog den_Right_rs Try.f13))) = (den_Right_s3 n (den_Right_s2 n)) := funext fun y => by
    have := den_Right_q3 n (fun st => codeK Try.prog den_Right_sp n (cr (cr (cr (cr (bodyOf Try.f13))))) den_Right_an.right.right.right.right st (kFin Try.prog den_Right_rs Try.f13)) y
    rw [h2] at this; exact this
  rw [codeK_R, den_Right_e0]
  rw [h2]
  rw [h3]
  rfl
def den_Right_p1 (_n : Nat) (k0 : den_Right_t0 → Option (Int × Unit)) (z : den_Right_t1) : Option (Int × Unit) :=
  bif z.2.1 then
    some ((1 : Int), ())
  else
    k0 (z.1, z.2.2)
def den_Right_s1 (n : Nat) (k0 : den_Right_t0 → Option (Int × Unit)) (z : den_Right_t1) : Option (Int × Unit) := den_Right_p1 n k0 z
theorem den_Right_e1 (n : Nat) (k0 : St → Option (Int × Unit)) (rc : Code → An → St → (Ex → St → Option (Int × Unit)) → Option (Int × Unit)) (z : den_Right_t1) : codeR rc Try.prog den_Right_sp n (cr (cl (cr (cr (bodyOf Try.f13))))) den_Right_an.right.right.left.right (den_Right_m1 z) (kSeq k0 den_Right_an.right.right (kFin Try.prog den_Right_rs Try.f13)) = den_Right_p1 n (fun y => k0 (den_Right_m0 y)) z := by kernel_rfl
theorem den_Right_q1 (n : Nat) (k0 : St → Option (Int × Unit)) (z : den_Right_t1) : codeK Try.prog den_Right_sp n (cr (cl (cr (cr (bodyOf Try.f13))))) den_Right_an.right.right.left.right (den_Right_m1 z) (kSeq k0 den_Right_an.right.right (kFin Try.prog den_Right_rs Try.f13)) = den_Right_s1 n (fun y => k0 (den_Right_m0 y)) z := by
  rw [codeK_R, den_Right_e1]
  rfl
def den_Right_px (_n : Nat) (k0 : den_Right_t0 → Option (Int × Unit)) (k1 : den_Right_t1 → Option (Int × Unit)) (x : (D_noonmarkref15_Zone × Unit)) : Option (Int × Unit) :=
  bif ((List.length x.1.1 : Int) == 0) then
    k1 ((List.length x.1.1 : Int), true, x.1)
  else
    bif (decide ((List.length x.1.1 : Int) > 8)) then
      k1 ((List.length x.1.1 : Int), true, x.1)
    else
      k1 ((List.length x.1.1 : Int), ((List.length x.1.2.1 : Int) != (List.length x.1.1 : Int)), x.1)
def den_Right (n : Nat) (x : (D_noonmarkref15_Zone × Unit)) : Option (Int × Unit) := den_Right_px n (den_Right_s0 n) (den_Right_s1 n (den_Right_s0 n)) x
theorem den_Right_ex (n : Nat) (rc : Code → An → St → (Ex → St → Option (Int × Unit)) → Option (Int × Unit)) (x : (D_noonmarkref15_Zone × Unit)) : codeR rc Try.prog den_Right_sp n (bodyOf Try.f13) den_Right_an (start den_Right_ps x (Func.ntmps Try.f13)) (kFin Try.prog den_Right_rs Try.f13) = den_Right_px n (fun y => rc (cr (cr (cr (bodyOf Try.f13)))) den_Right_an.right.right.right (den_Right_m0 y) (kFin Try.prog den_Right_rs Try.f13)) (fun y => rc (cr (cl (cr (cr (bodyOf Try.f13))))) den_Right_an.right.right.left.right (den_Right_m1 y) (kSeq (fun st => rc (cr (cr (cr (bodyOf Try.f13)))) den_Right_an.right.right.right st (kFin Try.prog den_Right_rs Try.f13)) den_Right_an.right.right (kFin Try.prog den_Right_rs Try.f13))) x := by kernel_rfl
theorem den_Right_qx (n : Nat) (x : (D_noonmarkref15_Zone × Unit)) : codeK Try.prog den_Right_sp n (bodyOf Try.f13) den_Right_an (start den_Right_ps x (Func.ntmps Try.f13)) (kFin Try.prog den_Right_rs Try.f13) = den_Right n x := by
  have h0 : (fun y => codeK Try.prog den_Right_sp n (cr (cr (cr (bodyOf Try.f13)))) den_Right_an.right.right.right (den_Right_m0 y) (kFin Try.prog den_Right_rs Try.f13)) = (den_Right_s0 n) := funext fun y => by
    have := den_Right_q0 n  y
    exact this
  have h1 : (fun y => codeK Try.prog den_Right_sp n (cr (cl (cr (cr (bodyOf Try.f13))))) den_Right_an.right.right.left.right (den_Right_m1 y) (kSeq (fun st => codeK Try.prog den_Right_sp n (cr (cr (cr (bodyOf Try.f13)))) den_Right_an.right.right.right st (kFin Try.prog den_Right_rs Try.f13)) den_Right_an.right.right (kFin Try.prog den_Right_rs Try.f13))) = (den_Right_s1 n (den_Right_s0 n)) := funext fun y => by
    have := den_Right_q1 n (fun st => codeK Try.prog den_Right_sp n (cr (cr (cr (bodyOf Try.f13)))) den_Right_an.right.right.right st (kFin Try.prog den_Right_rs Try.f13)) y
    rw [h0] at this; exact this
  rw [codeK_R, den_Right_ex]
  rw [h0]
  rw [h1]
  rfl
def den_Right_spec : Sp := ⟨den_Right_ps, den_Right_rs, den_Right⟩
theorem den_Right_ok : SoundX Try.prog CX 13 (.f den_Right_spec) := sound_of (look_cons den_End_ok (look_cons den_fits_ok look_nil)) Try.func13 (by kernel_rfl) rfl den_Right_an den_Right_spec rfl rfl den_Right_qx

/-! ### noonmark/den.At -/
abbrev den_At_ps : Ty := (.pair T_noonmarkref15_Zone (.pair (.int .i64) .unit))
abbrev den_At_rs : Ty := (.pair T_den_State (.pair (.int .i64) .unit))
def den_At_sp : Specs := look [(11, .f den_End_spec), (13, .f den_Right_spec), (14, .f den_year_spec), (15, .f den_Zone_saving_spec)]
def den_At_an : An := (.s .o (.s .o (.s .o (.k [] [1,2,4,9] 2 .o (.k [] [1,2,4,9] 2 (.b (.l [] [1,2,4,9] 2 .o)) .o)))))
abbrev den_At_t0 := Int × Int × D_noonmarkref15_Zone × D_den_State
def den_At_m0 (z : den_At_t0) : St := ⟨[.junk, .v ⟨(.int .i64), z.1⟩, .v ⟨(.ptr 0 0 T_noonmarkref15_Zone), ()⟩, .junk, .v ⟨(.ptr 1 0 T_den_State), ()⟩, .junk, .junk, .junk, .junk, .v ⟨(.int .i64), z.2.1⟩, .junk, .junk, .junk, .junk, .junk, .junk, .junk, .junk, .junk, .junk, .junk, .junk, .junk, .junk, .junk, .junk, .junk, .junk, .junk, .junk, .junk, .junk, .junk, .junk, .junk, .junk, .junk, .junk, .junk, .junk, .junk, .junk, .junk, .junk, .junk, .junk, .junk, .junk, .junk, .junk], [some (.one ⟨T_noonmarkref15_Zone, z.2.2.1⟩), some (.one ⟨T_den_State, z.2.2.2⟩)]⟩
abbrev den_At_t1 := Int × Int × D_noonmarkref15_Zone × D_den_State
def den_At_m1 (z : den_At_t1) : St := ⟨[.junk, .v ⟨(.int .i64), z.1⟩, .v ⟨(.ptr 0 0 T_noonmarkref15_Zone), ()⟩, .junk, .v ⟨(.ptr 1 0 T_den_State), ()⟩, .junk, .junk, .junk, .junk, .v ⟨(.int .i64), z.2.1⟩, .junk, .junk, .junk, .junk, .junk, .junk, .junk, .junk, .junk, .junk, .junk, .junk, .junk, .junk, .junk, .junk, .junk, .junk, .junk, .junk, .junk, .junk, .junk, .junk, .junk, .junk, .junk, .junk, .junk, .junk, .junk, .junk, .junk, .junk, .junk, .junk, .junk, .junk, .junk, .junk], [some (.one ⟨T_noonmarkref15_Zone, z.2.2.1⟩), some (.one ⟨T_den_State, z.2.2.2⟩)]⟩
abbrev den_At_t2 := Int × Int × D_noonmarkref15_Zone × D_den_State
def den_At_m2 (z : den_At_t2) : St := ⟨[.junk, .v ⟨(.int .i64), z.1⟩, .v ⟨(.ptr 0 0 T_noonmarkref15_Zone), ()⟩, .junk, .v ⟨(.ptr 1 0 T_den_State), ()⟩, .junk, .junk, .junk, .junk, .v ⟨(.int .i64), z.2.1⟩, .junk, .junk, .junk, .junk, .junk, .junk, .junk, .junk, .junk, .junk, .junk, .junk, .junk, .junk, .junk, .junk, .junk, .junk, .junk, .junk, .junk, .junk, .junk, .junk, .junk, .junk, .junk, .junk, .junk, .junk, .junk, .junk, .junk, .junk, .junk, .junk, .junk, .junk, .junk, .junk], [some (.one ⟨T_noonmarkref15_Zone, z.2.2.1⟩), some (.one ⟨T_den_State, z.2.2.2⟩)]⟩
def den_At_p2 (n : Nat) (k1 : den_At_t1 → Option (D_den_State × (Int × Unit))) (r2 : den_At_t2 → Option (D_den_State × (Int × Unit))) (z : den_At_t2) : Option (D_den_State × (Int × Unit)) :=
  bif (decide (z.2.1 < (w64 ((List.length z.2.2.1.1 : Int) - 1)))) then
    ((den_End n (z.2.2.1, (z.2.1, ())))).bind fun v4 =>
    bif (decide (z.1 < v4.1)) then
      k1 (z.1, z.2.1, z.2.2.1, z.2.2.2)
    else
      r2 (z.1, (w64 (z.2.1 + 1)), z.2.2.1, z.2.2.2)
  else
    k1 (z.1, z.2.1, z.2.2.1, z.2.2.2)
def den_At_s2 (n : Nat) (k1 : den_At_t1 → Option (D_den_State × (Int × Unit))) (r2 : den_At_t2 → Option (D_den_State × (Int × Unit))) (z : den_At_t2) : Option (D_den_State × (Int × Unit)) := den_At_p2 n k1 r2 z
theorem den_At_e2 (n : Nat) (k1 : St → Option (D_den_State × (Int × Unit))) (r2 : St → Option (D_den_State × (Int × Unit))) (rc : Code → An → St → (Ex → St → Option (D_den_State × (Int × Unit))) → Option (D_den_State × (Int × Unit))) (z : den_At_t2) : codeR rc Try.prog den_At_sp n (cl (cl (cl (cr (cr (cr (cr (bodyOf Try.f8)))))))) den_At_an.right.right.right.right.left.left.left (den_At_m2 z) (kSeq r2 den_At_an.right.right.right.right.left.left (kBlk 0 (kSeq k1 den_At_an.right.right.right.right (kFin Try.prog den_At_rs Try.f8)))) = den_At_p2 n (fun y => k1 (den_At_m1 y)) (fun y => r2 (den_At_m2 y)) z := by kernel_rfl
theorem den_At_q2 (n : Nat) (k1 : St → Option (D_den_State × (Int × Unit))) (r2 : St → Option (D_den_State × (Int × Unit))) (z : den_At_t2) : codeK Try.prog den_At_sp n (cl (cl (cl (cr (cr (cr (cr (bodyOf Try.f8)))))))) den_At_an.right.right.right.right.left.left.left (den_At_m2 z) (kSeq r2 den_At_an.right.right.right.right.left.left (kBlk 0 (kSeq k1 den_At_an.right.right.right.right (kFin Try.prog den_At_rs Try.f8)))) = den_At_s2 n (fun y => k1 (den_At_m1 y)) (fun y => r2 (den_At_m2 y)) z := by
  rw [codeK_R, den_At_e2]
  rfl
def den_At_p1 (n : Nat) (z : den_At_t1) : Option (D_den_State × (Int × Unit)) :=
  ((den_Zone_saving n (z.2.2.1, (z.2.1, (z.1, ()))))).bind fun v6 =>
  some ((z.2.1, (v6.1, (v6.2.1, ()))), ((0 : Int), ()))
def den_At_s1 (n : Nat) (z : den_At_t1) : Option (D_den_State × (Int × Unit)) := den_At_p1 n z
theorem den_At_e1 (n : Nat) (rc : Code → An → St → (Ex → St → Option (D_den_State × (Int × Unit))) → Option (D_den_State × (Int × Unit))) (z : den_At_t1) : codeR rc Try.prog den_At_sp n (cr (cr (cr (cr (cr (bodyOf Try.f8)))))) den_At_an.right.right.right.right.right (den_At_m1 z) (kFin Try.prog den_At_rs Try.f8) = den_At_p1 n z := by kernel_rfl
theorem den_At_q1 (n : Nat) (z : den_At_t1) : codeK Try.prog den_At_sp n (cr (cr (cr (cr (cr (bodyOf Try.f8)))))) den_At_an.right.right.right.right.right (den_At_m1 z) (kFin Try.prog den_At_rs Try.f8) = den_At_s1 n z := by
  rw [codeK_R, den_At_e1]
  rfl
def den_At_s0 (n : Nat) (z : den_At_t0) : Option (D_den_State × (Int × Unit)) :=
  rounds (fun r2 x' => den_At_s2 n (den_At_s1 n) r2 x') n (z.1, z.2.1, z.2.2.1, z.2.2.2)
theorem den_At_q0 (n : Nat) (z : den_At_t0) : codeK Try.prog den_At_sp n (cr (cr (cr (cr (bodyOf Try.f8))))) den_At_an.right.right.right.right (den_At_m0 z) (kFin Try.prog den_At_rs Try.f8) = den_At_s0 n z :=
  Eq.trans (b := rounds (fun r2 st => codeK Try.prog den_At_sp n (cl (cl (cl (cr (cr (cr (cr (bodyOf Try.f8)))))))) den_At_an.right.right.right.right.left.left.left st (kSeq r2 den_At_an.right.right.right.right.left.left (kBlk 0 (kSeq (fun st => codeK Try.prog den_At_sp n (cr (cr (cr (cr (cr (bodyOf Try.f8)))))) den_At_an.right.right.right.right.right st (kFin Try.prog den_At_rs Try.f8)) den_At_an.right.right.right.right (kFin Try.prog den_At_rs Try.f8))))) n (den_At_m2 (z.1, z.2.1, z.2.2.1, z.2.2.2))) (by kernel_rfl) (rounds_mk den_At_m2 (fun r2 x' => by
    have h1 : (fun y => codeK Try.prog den_At_sp n (cr (cr (cr (cr (cr (bodyOf Try.f8)))))) den_At_an.right.right.right.right.right (den_At_m1 y) (kFin Try.prog den_At_rs Try.f8)) = (den_At_s1 n) := funext fun y => by
      have := den_At_q1 n  y
      exact this
    have := (den_At_q2 n (fun st => codeK Try.prog den_At_sp n (cr (cr (cr (cr (cr (bodyOf Try.f8)))))) den_At_an.right.right.right.right.right st (kFin Try.prog den_At_rs Try.f8)) r2 x')
    rw [h1] at this
    exact this) n _)
def den_At_px (n : Nat) (k0 : den_At_t0 → Option (D_den_State × (Int × Unit))) (x : (D_noonmarkref15_Zone × (Int × Unit))) : Option (D_den_State × (Int × Unit)) :=
  ((den_Right n (x.1, ()))).bind fun v1 =>
  bif (v1.1 != 0) then
    some (((0 : Int), ((0 : Int), ((⟨#[]⟩ : ByteArray), ()))), (v1.1, ()))
  else
    ((den_year n (x.2.1, ()))).bind fun v2 =>
    bif (!v2.2.1) then
      some (((0 : Int), ((0 : Int), ((⟨#[]⟩ : ByteArray), ()))), ((2 : Int), ()))
    else
      k0 (x.2.1, (0 : Int), x.1, ((0 : Int), ((0 : Int), ((⟨#[]⟩ : ByteArray), ()))))
def den_At (n : Nat) (x : (D_noonmarkref15_Zone × (Int × Unit))) : Option (D_den_State × (Int × Unit)) := den_At_px n (den_At_s0 n) x
theorem den_At_ex (n : Nat) (rc : Code → An → St → (Ex → St → Option (D_den_State × (Int × Unit))) → Option (D_den_State × (Int × Unit))) (x : (D_noonmarkref15_Zone × (Int × Unit))) : codeR rc Try.prog den_At_sp n (bodyOf Try.f8) den_At_an (start den_At_ps x (Func.ntmps Try.f8)) (kFin Try.prog den_At_rs Try.f8) = den_At_px n (fun y => rc (cr (cr (cr (cr (bodyOf Try.f8))))) den_At_an.right.right.right.right (den_At_m0 y) (kFin Try.prog den_At_rs Try.f8)) x := by kernel_rfl
theorem den_At_qx (n : Nat) (x : (D_noonmarkref15_Zone × (Int × Unit))) : codeK Try.prog den_At_sp n (bodyOf Try.f8) den_At_an (start den_At_ps x (Func.ntmps Try.f8)) (kFin Try.prog den_At_rs Try.f8) = den_At n x := by
  have h0 : (fun y => codeK Try.prog den_At_sp n (cr (cr (cr (cr (bodyOf Try.f8))))) den_At_an.right.right.right.right (den_At_m0 y) (kFin Try.prog den_At_rs Try.f8)) = (den_At_s0 n) := funext fun y => by
    have := den_At_q0 n  y
    exact this
  rw [codeK_R, den_At_ex]
  rw [h0]
  rfl
def den_At_spec : Sp := ⟨den_At_ps, den_At_rs, den_At⟩
theorem den_At_ok : SoundX Try.prog CX 8 (.f den_At_spec) := sound_of (look_cons den_End_ok (look_cons den_Right_ok (look_cons den_year_ok (look_cons den_Zone_saving_ok look_nil)))) Try.func8 (by kernel_rfl) rfl den_At_an den_At_spec rfl rfl den_At_qx

/-! ### noonmark/noonmarklaw15.alive -/
abbrev noonmarklaw15_alive_ps : Ty := .unit
abbrev noonmarklaw15_alive_rs : Ty := (.pair .bool .unit)
def noonmarklaw15_alive_sp : Specs := look [(13, .f den_Right_spec), (8, .f den_At_spec)]
def noonmarklaw15_alive_an : An := .o
def noonmarklaw15_alive_px (n : Nat) (_x : Unit) : Option (Bool × Unit) :=
  let t2 := (((3600 : Int), ((2 : Int), ((0 : Int), ((⟨#[69, 85]⟩ : ByteArray), ((⟨#[67, 69, 37, 115, 84]⟩ : ByteArray), ((false, ((0 : Int), ((0 : Int), (((0 : Int), ((0 : Int), ((0 : Int), ()))), (((0 : Int), ((0 : Int), ())), ()))))), ())))))) :: [])
  let t3 := (((((⟨#[]⟩ : ByteArray), ((1981 : Int), ((10000 : Int), ((3 : Int), (((1 : Int), ((0 : Int), ((0 : Int), ()))), (((3600 : Int), ((2 : Int), ())), ((3600 : Int), ((⟨#[83]⟩ : ByteArray), ())))))))) :: ((⟨#[]⟩ : ByteArray), ((1996 : Int), ((10000 : Int), ((10 : Int), (((1 : Int), ((0 : Int), ((0 : Int), ()))), (((3600 : Int), ((2 : Int), ())), ((0 : Int), ((⟨#[]⟩ : ByteArray), ())))))))) :: [])) :: [])
  ((den_At n ((t2, (t3, ())), ((1720000000 : Int), ())))).bind fun v4 =>
  ((den_At n ((t2, (t3, ())), ((1700000000 : Int), ())))).bind fun v5 =>
  ((den_Right n ((t2, (t3, ())), ()))).bind fun v6 =>
  bif (v6.1 == 0) then
    bif (v4.2.1 == 0) then
      bif (v5.2.1 == 0) then
        bif (v4.1.2.1 == 3600) then
          bif (v4.1.2.2.1.toList == (⟨#[83]⟩ : ByteArray).toList) then
            bif (v5.1.2.1 == 0) then
              some ((v5.1.2.2.1.toList == (⟨#[]⟩ : ByteArray).toList), ())
            else
              some (false, ())
          else
            some (false, ())
        else
          some (false, ())
      else
        some (false, ())
    else
      some (false, ())
  else
    some (false, ())
def noonmarklaw15_alive (n : Nat) (x : Unit) : Option (Bool × Unit) := noonmarklaw15_alive_px n x
theorem noonmarklaw15_alive_ex (n : Nat) (rc : Code → An → St → (Ex → St → Option (Bool × Unit)) → Option (Bool × Unit)) (x : Unit) : codeR rc Try.prog noonmarklaw15_alive_sp n (bodyOf Try.f7) noonmarklaw15_alive_an (start noonmarklaw15_alive_ps x (Func.ntmps Try.f7)) (kFin Try.prog noonmarklaw15_alive_rs Try.f7) = noonmarklaw15_alive_px n x := by kernel_rfl
theorem noonmarklaw15_alive_qx (n : Nat) (x : Unit) : codeK Try.prog noonmarklaw15_alive_sp n (bodyOf Try.f7) noonmarklaw15_alive_an (start noonmarklaw15_alive_ps x (Func.ntmps Try.f7)) (kFin Try.prog noonmarklaw15_alive_rs Try.f7) = noonmarklaw15_alive n x := by
  rw [codeK_R, noonmarklaw15_alive_ex]
  rfl
def noonmarklaw15_alive_spec : Sp := ⟨noonmarklaw15_alive_ps, noonmarklaw15_alive_rs, noonmarklaw15_alive⟩
theorem noonmarklaw15_alive_ok : SoundX Try.prog CX 7 (.f noonmarklaw15_alive_spec) := sound_of (look_cons den_Right_ok (look_cons den_At_ok look_nil)) Try.func7 (by kernel_rfl) rfl noonmarklaw15_alive_an noonmarklaw15_alive_spec rfl rfl noonmarklaw15_alive_qx

/-! ### noonmark/noonmarklaw15.Own -/
abbrev noonmarklaw15_Own_ps : Ty := (.pair T_noonmarkref15_Zone .unit)
abbrev noonmarklaw15_Own_rs : Ty := (.pair T_noonmarkref15_Zone .unit)
def noonmarklaw15_Own_sp : Specs := look []
def noonmarklaw15_Own_an : An := .o
def noonmarklaw15_Own_px (_n : Nat) (x : (D_noonmarkref15_Zone × Unit)) : Option (D_noonmarkref15_Zone × Unit) :=
  some ((x.1.1, (x.1.2.1, ())), ())
def noonmarklaw15_Own (n : Nat) (x : (D_noonmarkref15_Zone × Unit)) : Option (D_noonmarkref15_Zone × Unit) := noonmarklaw15_Own_px n x
theorem noonmarklaw15_Own_ex (n : Nat) (rc : Code → An → St → (Ex → St → Option (D_noonmarkref15_Zone × Unit)) → Option (D_noonmarkref15_Zone × Unit)) (x : (D_noonmarkref15_Zone × Unit)) : codeR rc Try.prog noonmarklaw15_Own_sp n (bodyOf Try.f9) noonmarklaw15_Own_an (start noonmarklaw15_Own_ps x (Func.ntmps Try.f9)) (kFin Try.prog noonmarklaw15_Own_rs Try.f9) = noonmarklaw15_Own_px n x := by kernel_rfl
theorem noonmarklaw15_Own_qx (n : Nat) (x : (D_noonmarkref15_Zone × Unit)) : codeK Try.prog noonmarklaw15_Own_sp n (bodyOf Try.f9) noonmarklaw15_Own_an (start noonmarklaw15_Own_ps x (Func.ntmps Try.f9)) (kFin Try.prog noonmarklaw15_Own_rs Try.f9) = noonmarklaw15_Own n x := by
  rw [codeK_R, noonmarklaw15_Own_ex]
  rfl
def noonmarklaw15_Own_spec : Sp := ⟨noonmarklaw15_Own_ps, noonmarklaw15_Own_rs, noonmarklaw15_Own⟩
theorem noonmarklaw15_Own_ok : SoundX Try.prog CX 9 (.f noonmarklaw15_Own_spec) := sound_of look_nil Try.func9 (by kernel_rfl) rfl noonmarklaw15_Own_an noonmarklaw15_Own_spec rfl rfl noonmarklaw15_Own_qx

end Go.Proofs.YtadamegddcadcaaPi
