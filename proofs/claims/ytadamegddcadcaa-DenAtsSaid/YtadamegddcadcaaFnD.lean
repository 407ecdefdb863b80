import Derived.Test.YtadamegddcadcaaFnC
set_option linter.unusedVariables false
set_option maxRecDepth 100000
set_option maxHeartbeats 4000000
set_option linter.unusedVariables false
namespace Go.Proofs.YtadamegddcadcaaPi
open Go Go.Proofs

/-! ### noonmark/noonmarkref04.Leap -/
abbrev noonmarkref04_Leap_ps : Ty := (.pair (.int .i64) .unit)
abbrev noonmarkref04_Leap_rs : Ty := (.pair .bool .unit)
def noonmarkref04_Leap_sp : Specs := look []
def noonmarkref04_Leap_an : An := .o
def noonmarkref04_Leap_px (_n : Nat) (x : (Int × Unit)) : Option (Bool × Unit) :=
  bif ((Int.tmod x.1 (4 : Int)) == 0) then
    bif ((Int.tmod x.1 (100 : Int)) != 0) then
      some (true, ())
    else
      some (((Int.tmod x.1 (400 : Int)) == 0), ())
  else
    some (((Int.tmod x.1 (400 : Int)) == 0), ())
def noonmarkref04_Leap (n : Nat) (x : (Int × Unit)) : Option (Bool × Unit) := noonmarkref04_Leap_px n x
theorem noonmarkref04_Leap_ex (n : Nat) (rc : Code → An → St → (Ex → St → Option (Bool × Unit)) → Option (Bool × Unit)) (x : (Int × Unit)) : codeR rc Try.prog noonmarkref04_Leap_sp n (bodyOf Try.f62) noonmarkref04_Leap_an (start noonmarkref04_Leap_ps x (Func.ntmps Try.f62)) (kFin Try.prog noonmarkref04_Leap_rs Try.f62) = noonmarkref04_Leap_px n x := by kernel_rfl
theorem noonmarkref04_Leap_qx (n : Nat) (x : (Int × Unit)) : codeK Try.prog noonmarkref04_Leap_sp n (bodyOf Try.f62) noonmarkref04_Leap_an (start noonmarkref04_Leap_ps x (Func.ntmps Try.f62)) (kFin Try.prog noonmarkref04_Leap_rs Try.f62) = noonmarkref04_Leap n x := by
  rw [codeK_R, noonmarkref04_Leap_ex]
  rfl
def noonmarkref04_Leap_spec : Sp := ⟨noonmarkref04_Leap_ps, noonmarkref04_Leap_rs, noonmarkref04_Leap⟩
theorem noonmarkref04_Leap_ok : SoundX Try.prog CX 62 (.f noonmarkref04_Leap_spec) := sound_of look_nil Try.func62 (by kernel_rfl) rfl noonmarkref04_Leap_an noonmarkref04_Leap_spec rfl rfl noonmarkref04_Leap_qx

/-! ### noonmark/noonmarkref04.year -/
abbrev noonmarkref04_year_ps : Ty := (.pair (.int .i64) .unit)
abbrev noonmarkref04_year_rs : Ty := (.pair (.int .i64) .unit)
def noonmarkref04_year_sp : Specs := look [(62, .f noonmarkref04_Leap_spec)]
def noonmarkref04_year_an : An := (.s .o (.s .o (.k [] [0,3,4] 0 .o (.k [] [0,3,4] 0 (.b (.l [] [0,3,4] 0 .o)) (.k [] [0,3,4] 0 (.b (.l [] [0,3,4] 0 .o)) (.k [] [3] 0 (.b (.l [] [0,3,4] 0 (.s .o (.b (.s .o (.k [] [0,3,4] 0 .o .o)))))) .o))))))
abbrev noonmarkref04_year_t0 := Int × Int × Int
def noonmarkref04_year_m0 (z : noonmarkref04_year_t0) : St := ⟨[.v ⟨(.int .i64), z.1⟩, .junk, .junk, .v ⟨(.int .i64), z.2.1⟩, .v ⟨(.int .i64), z.2.2⟩, .junk, .junk, .junk, .junk, .junk, .junk, .junk, .junk, .junk, .junk, .junk, .junk, .junk, .junk, .junk, .junk, .junk, .junk, .junk, .junk, .junk, .junk, .junk, .junk, .junk, .junk, .junk], []⟩
abbrev noonmarkref04_year_t1 := Int × Int × Int
def noonmarkref04_year_m1 (z : noonmarkref04_year_t1) : St := ⟨[.v ⟨(.int .i64), z.1⟩, .junk, .junk, .v ⟨(.int .i64), z.2.1⟩, .v ⟨(.int .i64), z.2.2⟩, .junk, .junk, .junk, .junk, .junk, .junk, .junk, .junk, .junk, .junk, .junk, .junk, .junk, .junk, .junk, .junk, .junk, .junk, .junk, .junk, .junk, .junk, .junk, .junk, .junk, .junk, .junk], []⟩
abbrev noonmarkref04_year_t2 := Int × Int × Int
def noonmarkref04_year_m2 (z : noonmarkref04_year_t2) : St := ⟨[.v ⟨(.int .i64), z.1⟩, .junk, .junk, .v ⟨(.int .i64), z.2.1⟩, .v ⟨(.int .i64), z.2.2⟩, .junk, .junk, .junk, .junk, .junk, .junk, .junk, .junk, .junk, .junk, .junk, .junk, .junk, .junk, .junk, .junk, .junk, .junk, .junk, .junk, .junk, .junk, .junk, .junk, .junk, .junk, .junk], []⟩
abbrev noonmarkref04_year_t3 := Int × Int × Int
def noonmarkref04_year_m3 (z : noonmarkref04_year_t3) : St := ⟨[.v ⟨(.int .i64), z.1⟩, .junk, .junk, .v ⟨(.int .i64), z.2.1⟩, .v ⟨(.int .i64), z.2.2⟩, .junk, .junk, .junk, .junk, .junk, .junk, .junk, .junk, .junk, .junk, .junk, .junk, .junk, .junk, .junk, .junk, .junk, .junk, .junk, .junk, .junk, .junk, .junk, .junk, .junk, .junk, .junk], []⟩
abbrev noonmarkref04_year_t4 := Int × Int × Int
def noonmarkref04_year_m4 (z : noonmarkref04_year_t4) : St := ⟨[.v ⟨(.int .i64), z.1⟩, .junk, .junk, .v ⟨(.int .i64), z.2.1⟩, .v ⟨(.int .i64), z.2.2⟩, .junk, .junk, .junk, .junk, .junk, .junk, .junk, .junk, .junk, .junk, .junk, .junk, .junk, .junk, .junk, .junk, .junk, .junk, .junk, .junk, .junk, .junk, .junk, .junk, .junk, .junk, .junk], []⟩
abbrev noonmarkref04_year_t5 := Int
def noonmarkref04_year_m5 (z : noonmarkref04_year_t5) : St := ⟨[.junk, .junk, .junk, .v ⟨(.int .i64), z⟩, .junk, .junk, .junk, .junk, .junk, .junk, .junk, .junk, .junk, .junk, .junk, .junk, .junk, .junk, .junk, .junk, .junk, .junk, .junk, .junk, .junk, .junk, .junk, .junk, .junk, .junk, .junk, .junk], []⟩
abbrev noonmarkref04_year_t6 := Int × Int × Int
def noonmarkref04_year_m6 (z : noonmarkref04_year_t6) : St := ⟨[.v ⟨(.int .i64), z.1⟩, .junk, .junk, .v ⟨(.int .i64), z.2.1⟩, .v ⟨(.int .i64), z.2.2⟩, .junk, .junk, .junk, .junk, .junk, .junk, .junk, .junk, .junk, .junk, .junk, .junk, .junk, .junk, .junk, .junk, .junk, .junk, .junk, .junk, .junk, .junk, .junk, .junk, .junk, .junk, .junk], []⟩
abbrev noonmarkref04_year_t7 := Int × Int × Int
def noonmarkref04_year_m7 (z : noonmarkref04_year_t7) : St := ⟨[.v ⟨(.int .i64), z.1⟩, .junk, .junk, .v ⟨(.int .i64), z.2.1⟩, .v ⟨(.int .i64), z.2.2⟩, .junk, .junk, .junk, .junk, .junk, .junk, .junk, .junk, .junk, .junk, .junk, .junk, .junk, .junk, .junk, .junk, .junk, .junk, .junk, .junk, .junk, .junk, .junk, .junk, .junk, .junk, .junk], []⟩
def noonmarkref04_year_p2 (_n : Nat) (k1 : noonmarkref04_year_t1 → Option (Int × Unit)) (r2 : noonmarkref04_year_t2 → Option (Int × Unit)) (z : noonmarkref04_year_t2) : Option (Int × Unit) :=
  bif (decide ((w64 (z.2.2 + 400)) ≤ z.1)) then
    r2 (z.1, (w64 (z.2.1 + 146097)), (w64 (z.2.2 + 400)))
  else
    k1 (z.1, z.2.1, z.2.2)
def noonmarkref04_year_s2 (n : Nat) (k1 : noonmarkref04_year_t1 → Option (Int × Unit)) (r2 : noonmarkref04_year_t2 → Option (Int × Unit)) (z : noonmarkref04_year_t2) : Option (Int × Unit) := noonmarkref04_year_p2 n k1 r2 z
theorem noonmarkref04_year_e2 (n : Nat) (k1 : St → Option (Int × Unit)) (r2 : St → Option (Int × Unit)) (rc : Code → An → St → (Ex → St → Option (Int × Unit)) → Option (Int × Unit)) (z : noonmarkref04_year_t2) : codeR rc Try.prog noonmarkref04_year_sp n (cl (cl (cl (cr (cr (cr (bodyOf Try.f41))))))) noonmarkref04_year_an.right.right.right.left.left.left (noonmarkref04_year_m2 z) (kSeq r2 noonmarkref04_year_an.right.right.right.left.left (kBlk 0 (kSeq k1 noonmarkref04_year_an.right.right.right (kFin Try.prog noonmarkref04_year_rs Try.f41)))) = noonmarkref04_year_p2 n (fun y => k1 (noonmarkref04_year_m1 y)) (fun y => r2 (noonmarkref04_year_m2 y)) z := by kernel_rfl
theorem noonmarkref04_year_q2 (n : Nat) (k1 : St → Option (Int × Unit)) (r2 : St → Option (Int × Unit)) (z : noonmarkref04_year_t2) : codeK Try.prog noonmarkref04_year_sp n (cl (cl (cl (cr (cr (cr (bodyOf Try.f41))))))) noonmarkref04_year_an.right.right.right.left.left.left (noonmarkref04_year_m2 z) (kSeq r2 noonmarkref04_year_an.right.right.right.left.left (kBlk 0 (kSeq k1 noonmarkref04_year_an.right.right.right (kFin Try.prog noonmarkref04_year_rs Try.f41)))) = noonmarkref04_year_s2 n (fun y => k1 (noonmarkref04_year_m1 y)) (fun y => r2 (noonmarkref04_year_m2 y)) z := by
  rw [codeK_R, noonmarkref04_year_e2]
  rfl
def noonmarkref04_year_p4 (_n : Nat) (k3 : noonmarkref04_year_t3 → Option (Int × Unit)) (r4 : noonmarkref04_year_t4 → Option (Int × Unit)) (z : noonmarkref04_year_t4) : Option (Int × Unit) :=
  bif (decide (z.2.2 > z.1)) then
    r4 (z.1, (w64 (z.2.1 - 146097)), (w64 (z.2.2 - 400)))
  else
    k3 (z.1, z.2.1, z.2.2)
def noonmarkref04_year_s4 (n : Nat) (k3 : noonmarkref04_year_t3 → Option (Int × Unit)) (r4 : noonmarkref04_year_t4 → Option (Int × Unit)) (z : noonmarkref04_year_t4) : Option (Int × Unit) := noonmarkref04_year_p4 n k3 r4 z
theorem noonmarkref04_year_e4 (n : Nat) (k3 : St → Option (Int × Unit)) (r4 : St → Option (Int × Unit)) (rc : Code → An → St → (Ex → St → Option (Int × Unit)) → Option (Int × Unit)) (z : noonmarkref04_year_t4) : codeR rc Try.prog noonmarkref04_year_sp n (cl (cl (cl (cr (cr (cr (cr (bodyOf Try.f41)))))))) noonmarkref04_year_an.right.right.right.right.left.left.left (noonmarkref04_year_m4 z) (kSeq r4 noonmarkref04_year_an.right.right.right.right.left.left (kBlk 2 (kSeq k3 noonmarkref04_year_an.right.right.right.right (kFin Try.prog noonmarkref04_year_rs Try.f41)))) = noonmarkref04_year_p4 n (fun y => k3 (noonmarkref04_year_m3 y)) (fun y => r4 (noonmarkref04_year_m4 y)) z := by kernel_rfl
theorem noonmarkref04_year_q4 (n : Nat) (k3 : St → Option (Int × Unit)) (r4 : St → Option (Int × Unit)) (z : noonmarkref04_year_t4) : codeK Try.prog noonmarkref04_year_sp n (cl (cl (cl (cr (cr (cr (cr (bodyOf Try.f41)))))))) noonmarkref04_year_an.right.right.right.right.left.left.left (noonmarkref04_year_m4 z) (kSeq r4 noonmarkref04_year_an.right.right.right.right.left.left (kBlk 2 (kSeq k3 noonmarkref04_year_an.right.right.right.right (kFin Try.prog noonmarkref04_year_rs Try.f41)))) = noonmarkref04_year_s4 n (fun y => k3 (noonmarkref04_year_m3 y)) (fun y => r4 (noonmarkref04_year_m4 y)) z := by
  rw [codeK_R, noonmarkref04_year_e4]
  rfl
def noonmarkref04_year_p7 (_n : Nat) (_k5 : noonmarkref04_year_t5 → Option (Int × Unit)) (r6 : noonmarkref04_year_t6 → Option (Int × Unit)) (z : noonmarkref04_year_t7) : Option (Int × Unit) :=
  r6 (z.1, z.2.1, (w64 (z.2.2 + 1)))
def noonmarkref04_year_s7 (n : Nat) (k5 : noonmarkref04_year_t5 → Option (Int × Unit)) (r6 : noonmarkref04_year_t6 → Option (Int × Unit)) (z : noonmarkref04_year_t7) : Option (Int × Unit) := noonmarkref04_year_p7 n k5 r6 z
theorem noonmarkref04_year_e7 (n : Nat) (k5 : St → Option (Int × Unit)) (r6 : St → Option (Int × Unit)) (rc : Code → An → St → (Ex → St → Option (Int × Unit)) → Option (Int × Unit)) (z : noonmarkref04_year_t7) : codeR rc Try.prog noonmarkref04_year_sp n (cr (cr (cl (cr (cl (cl (cl (cr (cr (cr (cr (cr (bodyOf Try.f41))))))))))))) noonmarkref04_year_an.right.right.right.right.right.left.left.left.right.left.right.right (noonmarkref04_year_m7 z) (kBlk 5 (kSeq r6 noonmarkref04_year_an.right.right.right.right.right.left.left (kBlk 4 (kSeq k5 noonmarkref04_year_an.right.right.right.right.right (kFin Try.prog noonmarkref04_year_rs Try.f41))))) = noonmarkref04_year_p7 n (fun y => k5 (noonmarkref04_year_m5 y)) (fun y => r6 (noonmarkref04_year_m6 y)) z := by kernel_rfl
theorem noonmarkref04_year_q7 (n : Nat) (k5 : St → Option (Int × Unit)) (r6 : St → Option (Int × Unit)) (z : noonmarkref04_year_t7) : codeK Try.prog noonmarkref04_year_sp n (cr (cr (cl (cr (cl (cl (cl (cr (cr (cr (cr (cr (bodyOf Try.f41))))))))))))) noonmarkref04_year_an.right.right.right.right.right.left.left.left.right.left.right.right (noonmarkref04_year_m7 z) (kBlk 5 (kSeq r6 noonmarkref04_year_an.right.right.right.right.right.left.left (kBlk 4 (kSeq k5 noonmarkref04_year_an.right.right.right.right.right (kFin Try.prog noonmarkref04_year_rs Try.f41))))) = noonmarkref04_year_s7 n (fun y => k5 (noonmarkref04_year_m5 y)) (fun y => r6 (noonmarkref04_year_m6 y)) z := by
  rw [codeK_R, noonmarkref04_year_e7]
  rfl
def noonmarkref04_year_p6 (n : Nat) (k5 : noonmarkref04_year_t5 → Option (Int × Unit)) (_r6 : noonmarkref04_year_t6 → Option (Int × Unit)) (k7 : noonmarkref04_year_t7 → Option (Int × Unit)) (z : noonmarkref04_year_t6) : Option (Int × Unit) :=
  bif (decide (z.2.2 < z.1)) then
    let t6 := w64 (z.2.1 + 365)
    ((noonmarkref04_Leap n (z.2.2, ()))).bind fun v7 =>
    bif v7.1 then
      k7 (z.1, (w64 (t6 + 1)), z.2.2)
    else
      k7 (z.1, t6, z.2.2)
  else
    k5 z.2.1
def noonmarkref04_year_s6 (n : Nat) (k5 : noonmarkref04_year_t5 → Option (Int × Unit)) (r6 : noonmarkref04_year_t6 → Option (Int × Unit)) (z : noonmarkref04_year_t6) : Option (Int × Unit) := noonmarkref04_year_p6 n k5 r6 (noonmarkref04_year_s7 n k5 r6) z
theorem noonmarkref04_year_e6 (n : Nat) (k5 : St → Option (Int × Unit)) (r6 : St → Option (Int × Unit)) (rc : Code → An → St → (Ex → St → Option (Int × Unit)) → Option (Int × Unit)) (z : noonmarkref04_year_t6) : codeR rc Try.prog noonmarkref04_year_sp n (cl (cl (cl (cr (cr (cr (cr (cr (bodyOf Try.f41))))))))) noonmarkref04_year_an.right.right.right.right.right.left.left.left (noonmarkref04_year_m6 z) (kSeq r6 noonmarkref04_year_an.right.right.right.right.right.left.left (kBlk 4 (kSeq k5 noonmarkref04_year_an.right.right.right.right.right (kFin Try.prog noonmarkref04_year_rs Try.f41)))) = noonmarkref04_year_p6 n (fun y => k5 (noonmarkref04_year_m5 y)) (fun y => r6 (noonmarkref04_year_m6 y)) (fun y => rc (cr (cr (cl (cr (cl (cl (cl (cr (cr (cr (cr (cr (bodyOf Try.f41))))))))))))) noonmarkref04_year_an.right.right.right.right.right.left.left.left.right.left.right.right (noonmarkref04_year_m7 y) (kBlk 5 (kSeq r6 noonmarkref04_year_an.right.right.right.right.right.left.left (kBlk 4 (kSeq k5 noonmarkref04_year_an.right.right.right.right.right (kFin Try.prog noonmarkref04_year_rs Try.f41)))))) z := by kernel_rfl
theorem noonmarkref04_year_q6 (n : Nat) (k5 : St → Option (Int × Unit)) (r6 : St → Option (Int × Unit)) (z : noonmarkref04_year_t6) : codeK Try.prog noonmarkref04_year_sp n (cl (cl (cl (cr (cr (cr (cr (cr (bodyOf Try.f41))))))))) noonmarkref04_year_an.right.right.right.right.right.left.left.left (noonmarkref04_year_m6 z) (kSeq r6 noonmarkref04_year_an.right.right.right.right.right.left.left (kBlk 4 (kSeq k5 noonmarkref04_year_an.right.right.right.right.right (kFin Try.prog noonmarkref04_year_rs Try.f41)))) = noonmarkref04_year_s6 n (fun y => k5 (noonmarkref04_year_m5 y)) (fun y => r6 (noonmarkref04_year_m6 y)) z := by
  have h7 : (fun y => codeK Try.prog noonmarkref04_year_sp n (cr (cr (cl (cr (cl (cl (cl (cr (cr (cr (cr (cr (bodyOf Try.f41))))))))))))) noonmarkref04_year_an.right.right.right.right.right.left.left.left.right.left.right.right (noonmarkref04_year_m7 y) (kBlk 5 (kSeq r6 noonmarkref04_year_an.right.right.right.right.right.left.left (kBlk 4 (kSeq k5 noonmarkref04_year_an.right.right.right.right.right (kFin Try.prog noonmarkref04_year_rs Try.f41)))))) = (noonmarkref04_year_s7 n (fun y => k5 (noonmarkref04_year_m5 y)) (fun y => r6 (noonmarkref04_year_m6 y))) := funext fun y => by
    have := noonmarkref04_year_q7 n k5 r6 y
    exact this
  rw [codeK_R, noonmarkref04_year_e6]
  rw [h7]
  rfl
def noonmarkref04_year_p5 (_n : Nat) (z : noonmarkref04_year_t5) : Option (Int × Unit) :=
  some (z, ())
def noonmarkref04_year_s5 (n : Nat) (z : noonmarkref04_year_t5) : Option (Int × Unit) := noonmarkref04_year_p5 n z
theorem noonmarkref04_year_e5 (n : Nat) (rc : Code → An → St → (Ex → St → Option (Int × Unit)) → Option (Int × Unit)) (z : noonmarkref04_year_t5) : codeR rc Try.prog noonmarkref04_year_sp n (cr (cr (cr (cr (cr (cr (bodyOf Try.f41))))))) noonmarkref04_year_an.right.right.right.right.right.right (noonmarkref04_year_m5 z) (kFin Try.prog noonmarkref04_year_rs Try.f41) = noonmarkref04_year_p5 n z := by kernel_rfl
theorem noonmarkref04_year_q5 (n : Nat) (z : noonmarkref04_year_t5) : codeK Try.prog noonmarkref04_year_sp n (cr (cr (cr (cr (cr (cr (bodyOf Try.f41))))))) noonmarkref04_year_an.right.right.right.right.right.right (noonmarkref04_year_m5 z) (kFin Try.prog noonmarkref04_year_rs Try.f41) = noonmarkref04_year_s5 n z := by
  rw [codeK_R, noonmarkref04_year_e5]
  rfl
def noonmarkref04_year_s3 (n : Nat) (z : noonmarkref04_year_t3) : Option (Int × Unit) :=
  rounds (fun r6 x' => noonmarkref04_year_s6 n (noonmarkref04_year_s5 n) r6 x') n (z.1, z.2.1, z.2.2)
theorem noonmarkref04_year_q3 (n : Nat) (z : noonmarkref04_year_t3) : codeK Try.prog noonmarkref04_year_sp n (cr (cr (cr (cr (cr (bodyOf Try.f41)))))) noonmarkref04_year_an.right.right.right.right.right (noonmarkref04_year_m3 z) (kFin Try.prog noonmarkref04_year_rs Try.f41) = noonmarkref04_year_s3 n z :=
  Eq.trans (b := rounds (fun r6 st => codeK Try.prog noonmarkref04_year_sp n (cl (cl (cl (cr (cr (cr (cr (cr (bodyOf Try.f41))))))))) noonmarkref04_year_an.right.right.right.right.right.left.left.left st (kSeq r6 noonmarkref04_year_an.right.right.right.right.right.left.left (kBlk 4 (kSeq (fun st => codeK Try.prog noonmarkref04_year_sp n (cr (cr (cr (cr (cr (cr (bodyOf Try.f41))))))) noonmarkref04_year_an.right.right.right.right.right.right st (kFin Try.prog noonmarkref04_year_rs Try.f41)) noonmarkref04_year_an.right.right.right.right.right (kFin Try.prog noonmarkref04_year_rs Try.f41))))) n (noonmarkref04_year_m6 (z.1, z.2.1, z.2.2))) (by kernel_rfl) (rounds_mk noonmarkref04_year_m6 (fun r6 x' => by
    have h5 : (fun y => codeK Try.prog noonmarkref04_year_sp n (cr (cr (cr (cr (cr (cr (bodyOf Try.f41))))))) noonmarkref04_year_an.right.right.right.right.right.right (noonmarkref04_year_m5 y) (kFin Try.prog noonmarkref04_year_rs Try.f41)) = (noonmarkref04_year_s5 n) := funext fun y => by
      have := noonmarkref04_year_q5 n  y
      exact this
    have := (noonmarkref04_year_q6 n (fun st => codeK Try.prog noonmarkref04_year_sp n (cr (cr (cr (cr (cr (cr (bodyOf Try.f41))))))) noonmarkref04_year_an.right.right.right.right.right.right st (kFin Try.prog noonmarkref04_year_rs Try.f41)) r6 x')
    rw [h5] at this
    exact this) n _)
def noonmarkref04_year_s1 (n : Nat) (z : noonmarkref04_year_t1) : Option (Int × Unit) :=
  rounds (fun r4 x' => noonmarkref04_year_s4 n (noonmarkref04_year_s3 n) r4 x') n (z.1, z.2.1, z.2.2)
theorem noonmarkref04_year_q1 (n : Nat) (z : noonmarkref04_year_t1) : codeK Try.prog noonmarkref04_year_sp n (cr (cr (cr (cr (bodyOf Try.f41))))) noonmarkref04_year_an.right.right.right.right (noonmarkref04_year_m1 z) (kFin Try.prog noonmarkref04_year_rs Try.f41) = noonmarkref04_year_s1 n z :=
  Eq.trans (b := rounds (fun r4 st => codeK Try.prog noonmarkref04_year_sp n (cl (cl (cl (cr (cr (cr (cr (bodyOf Try.f41)))))))) noonmarkref04_year_an.right.right.right.right.left.left.left st (kSeq r4 noonmarkref04_year_an.right.right.right.right.left.left (kBlk 2 (kSeq (fun st => codeK Try.prog noonmarkref04_year_sp n (cr (cr (cr (cr (cr (bodyOf Try.f41)))))) noonmarkref04_year_an.right.right.right.right.right st (kFin Try.prog noonmarkref04_year_rs Try.f41)) noonmarkref04_year_an.right.right.right.right (kFin Try.prog noonmarkref04_year_rs Try.f41))))) n (noonmarkref04_year_m4 (z.1, z.2.1, z.2.2))) (by kernel_rfl) (rounds_mk noonmarkref04_year_m4 (fun r4 x' => by
    have h3 : (fun y => codeK Try.prog noonmarkref04_year_sp n (cr (cr (cr (cr (cr (bodyOf Try.f41)))))) noonmarkref04_year_an.right.right.right.right.right (noonmarkref04_year_m3 y) (kFin Try.prog noonmarkref04_year_rs Try.f41)) = (noonmarkref04_year_s3 n) := funext fun y => by
      have := noonmarkref04_year_q3 n  y
      exact this
    have := (noonmarkref04_year_q4 n (fun st => codeK Try.prog noonmarkref04_year_sp n (cr (cr (cr (cr (cr (bodyOf Try.f41)))))) noonmarkref04_year_an.right.right.right.right.right st (kFin Try.prog noonmarkref04_year_rs Try.f41)) r4 x')
    rw [h3] at this
    exact this) n _)
def noonmarkref04_year_s0 (n : Nat) (z : noonmarkref04_year_t0) : Option (Int × Unit) :=
  rounds (fun r2 x' => noonmarkref04_year_s2 n (noonmarkref04_year_s1 n) r2 x') n (z.1, z.2.1, z.2.2)
theorem noonmarkref04_year_q0 (n : Nat) (z : noonmarkref04_year_t0) : codeK Try.prog noonmarkref04_year_sp n (cr (cr (cr (bodyOf Try.f41)))) noonmarkref04_year_an.right.right.right (noonmarkref04_year_m0 z) (kFin Try.prog noonmarkref04_year_rs Try.f41) = noonmarkref04_year_s0 n z :=
  Eq.trans (b := rounds (fun r2 st => codeK Try.prog noonmarkref04_year_sp n (cl (cl (cl (cr (cr (cr (bodyOf Try.f41))))))) noonmarkref04_year_an.right.right.right.left.left.left st (kSeq r2 noonmarkref04_year_an.right.right.right.left.left (kBlk 0 (kSeq (fun st => codeK Try.prog noonmarkref04_year_sp n (cr (cr (cr (cr (bodyOf Try.f41))))) noonmarkref04_year_an.right.right.right.right st (kFin Try.prog noonmarkref04_year_rs Try.f41)) noonmarkref04_year_an.right.right.right (kFin Try.prog noonmarkref04_year_rs Try.f41))))) n (noonmarkref04_year_m2 (z.1, z.2.1, z.2.2))) (by kernel_rfl) (rounds_mk noonmarkref04_year_m2 (fun r2 x' => by
    have h1 : (fun y => codeK Try.prog noonmarkref04_year_sp n (cr (cr (cr (cr (bodyOf Try.f41))))) noonmarkref04_year_an.right.right.right.right (noonmarkref04_year_m1 y) (kFin Try.prog noonmarkref04_year_rs Try.f41)) = (noonmarkref04_year_s1 n) := funext fun y => by
      have := noonmarkref04_year_q1 n  y
      exact this
    have := (noonmarkref04_year_q2 n (fun st => codeK Try.prog noonmarkref04_year_sp n (cr (cr (cr (cr (bodyOf Try.f41))))) noonmarkref04_year_an.right.right.right.right st (kFin Try.prog noonmarkref04_year_rs Try.f41)) r2 x')
    rw [h1] at this
    exact this) n _)
def noonmarkref04_year_px (_n : Nat) (k0 : noonmarkref04_year_t0 → Option (Int × Unit)) (x : (Int × Unit)) : Option (Int × Unit) :=
  k0 (x.1, (0 : Int), (1970 : Int))
def noonmarkref04_year (n : Nat) (x : (Int × Unit)) : Option (Int × Unit) := noonmarkref04_year_px n (noonmarkref04_year_s0 n) x
theorem noonmarkref04_year_ex (n : Nat) (rc : Code → An → St → (Ex → St → Option (Int × Unit)) → Option (Int × Unit)) (x : (Int × Unit)) : codeR rc Try.prog noonmarkref04_year_sp n (bodyOf Try.f41) noonmarkref04_year_an (start noonmarkref04_year_ps x (Func.ntmps Try.f41)) (kFin Try.prog noonmarkref04_year_rs Try.f41) = noonmarkref04_year_px n (fun y => rc (cr (cr (cr (bodyOf Try.f41)))) noonmarkref04_year_an.right.right.right (noonmarkref04_year_m0 y) (kFin Try.prog noonmarkref04_year_rs Try.f41)) x := by kernel_rfl
theorem noonmarkref04_year_qx (n : Nat) (x : (Int × Unit)) : codeK Try.prog noonmarkref04_year_sp n (bodyOf Try.f41) noonmarkref04_year_an (start noonmarkref04_year_ps x (Func.ntmps Try.f41)) (kFin Try.prog noonmarkref04_year_rs Try.f41) = noonmarkref04_year n x := by
  have h0 : (fun y => codeK Try.prog noonmarkref04_year_sp n (cr (cr (cr (bodyOf Try.f41)))) noonmarkref04_year_an.right.right.right (noonmarkref04_year_m0 y) (kFin Try.prog noonmarkref04_year_rs Try.f41)) = (noonmarkref04_year_s0 n) := funext fun y => by
    have := noonmarkref04_year_q0 n  y
    exact this
  rw [codeK_R, noonmarkref04_year_ex]
  rw [h0]
  rfl
def noonmarkref04_year_spec : Sp := ⟨noonmarkref04_year_ps, noonmarkref04_year_rs, noonmarkref04_year⟩
theorem noonmarkref04_year_ok : SoundX Try.prog CX 41 (.f noonmarkref04_year_spec) := sound_of (look_cons noonmarkref04_Leap_ok look_nil) Try.func41 (by kernel_rfl) rfl noonmarkref04_year_an noonmarkref04_year_spec rfl rfl noonmarkref04_year_qx

/-! ### noonmark/noonmarkref04.Long -/
abbrev noonmarkref04_Long_ps : Ty := T_api_At
abbrev noonmarkref04_Long_rs : Ty := (.pair (.int .i64) .unit)
def noonmarkref04_Long_sp : Specs := look [(62, .f noonmarkref04_Leap_spec)]
def noonmarkref04_Long_an : An := (.s .o (.k [] [] 0 (.s .o (.b (.k [] [0,5,6] 0 .o (.c .o (.s .o (.c .o (.k [] [15] 0 .o .o))))))) .o))
abbrev noonmarkref04_Long_t0 := Unit
def noonmarkref04_Long_m0 (_z : noonmarkref04_Long_t0) : St := ⟨[.junk, .junk, .junk, .junk, .junk, .junk, .junk, .junk, .junk, .junk, .junk, .junk, .junk, .junk, .junk, .junk, .junk, .junk, .junk, .junk, .junk, .junk, .junk], []⟩
abbrev noonmarkref04_Long_t1 := Int × Int × Bool
def noonmarkref04_Long_m1 (z : noonmarkref04_Long_t1) : St := ⟨[.v ⟨(.int .i64), z.1⟩, .junk, .junk, .junk, .junk, .v ⟨(.int .i64), z.2.1⟩, .v ⟨.bool, z.2.2⟩, .junk, .junk, .junk, .junk, .junk, .junk, .junk, .junk, .junk, .junk, .junk, .junk, .junk, .junk, .junk, .junk], []⟩
abbrev noonmarkref04_Long_t2 := Bool
def noonmarkref04_Long_m2 (z : noonmarkref04_Long_t2) : St := ⟨[.junk, .junk, .junk, .junk, .junk, .junk, .junk, .junk, .junk, .junk, .junk, .junk, .junk, .junk, .junk, .v ⟨.bool, z⟩, .junk, .junk, .junk, .junk, .junk, .junk, .junk], []⟩
def noonmarkref04_Long_p0 (_n : Nat) (_z : noonmarkref04_Long_t0) : Option (Int × Unit) :=
  some ((0 : Int), ())
def noonmarkref04_Long_s0 (n : Nat) (z : noonmarkref04_Long_t0) : Option (Int × Unit) := noonmarkref04_Long_p0 n z
theorem noonmarkref04_Long_e0 (n : Nat) (rc : Code → An → St → (Ex → St → Option (Int × Unit)) → Option (Int × Unit)) (z : noonmarkref04_Long_t0) : codeR rc Try.prog noonmarkref04_Long_sp n (cr (cr (bodyOf Try.f42))) noonmarkref04_Long_an.right.right (noonmarkref04_Long_m0 z) (kFin Try.prog noonmarkref04_Long_rs Try.f42) = noonmarkref04_Long_p0 n z := by kernel_rfl
theorem noonmarkref04_Long_q0 (n : Nat) (z : noonmarkref04_Long_t0) : codeK Try.prog noonmarkref04_Long_sp n (cr (cr (bodyOf Try.f42))) noonmarkref04_Long_an.right.right (noonmarkref04_Long_m0 z) (kFin Try.prog noonmarkref04_Long_rs Try.f42) = noonmarkref04_Long_s0 n z := by
  rw [codeK_R, noonmarkref04_Long_e0]
  rfl
def noonmarkref04_Long_p2 (_n : Nat) (k0 : noonmarkref04_Long_t0 → Option (Int × Unit)) (z : noonmarkref04_Long_t2) : Option (Int × Unit) :=
  bif z then
    some ((31 : Int), ())
  else
    k0 ()
def noonmarkref04_Long_s2 (n : Nat) (k0 : noonmarkref04_Long_t0 → Option (Int × Unit)) (z : noonmarkref04_Long_t2) : Option (Int × Unit) := noonmarkref04_Long_p2 n k0 z
theorem noonmarkref04_Long_e2 (n : Nat) (k0 : St → Option (Int × Unit)) (rc : Code → An → St → (Ex → St → Option (Int × Unit)) → Option (Int × Unit)) (z : noonmarkref04_Long_t2) : codeR rc Try.prog noonmarkref04_Long_sp n (cr (cr (cr (cr (cr (cl (cr (cl (cr (bodyOf Try.f42)))))))))) noonmarkref04_Long_an.right.left.right.left.right.right.right.right.right (noonmarkref04_Long_m2 z) (kBlk 0 (kSeq k0 noonmarkref04_Long_an.right (kFin Try.prog noonmarkref04_Long_rs Try.f42))) = noonmarkref04_Long_p2 n (fun y => k0 (noonmarkref04_Long_m0 y)) z := by kernel_rfl
theorem noonmarkref04_Long_q2 (n : Nat) (k0 : St → Option (Int × Unit)) (z : noonmarkref04_Long_t2) : codeK Try.prog noonmarkref04_Long_sp n (cr (cr (cr (cr (cr (cl (cr (cl (cr (bodyOf Try.f42)))))))))) noonmarkref04_Long_an.right.left.right.left.right.right.right.right.right (noonmarkref04_Long_m2 z) (kBlk 0 (kSeq k0 noonmarkref04_Long_an.right (kFin Try.prog noonmarkref04_Long_rs Try.f42))) = noonmarkref04_Long_s2 n (fun y => k0 (noonmarkref04_Long_m0 y)) z := by
  rw [codeK_R, noonmarkref04_Long_e2]
  rfl
def noonmarkref04_Long_p1 (n : Nat) (_k0 : noonmarkref04_Long_t0 → Option (Int × Unit)) (k2 : noonmarkref04_Long_t2 → Option (Int × Unit)) (z : noonmarkref04_Long_t1) : Option (Int × Unit) :=
  bif z.2.2 then
    some ((30 : Int), ())
  else
    bif (z.2.1 == 2) then
      ((noonmarkref04_Leap n (z.1, ()))).bind fun v1 =>
      bif v1.1 then
        some ((29 : Int), ())
      else
        some ((28 : Int), ())
    else
      bif (z.2.1 == 1) then
        k2 true
      else
        bif (z.2.1 == 3) then
          k2 true
        else
          bif (z.2.1 == 5) then
            k2 true
          else
            bif (z.2.1 == 7) then
              k2 true
            else
              bif (z.2.1 == 8) then
                k2 true
              else
                bif (z.2.1 == 10) then
                  k2 true
                else
                  k2 (z.2.1 == 12)
def noonmarkref04_Long_s1 (n : Nat) (k0 : noonmarkref04_Long_t0 → Option (Int × Unit)) (z : noonmarkref04_Long_t1) : Option (Int × Unit) := noonmarkref04_Long_p1 n k0 (noonmarkref04_Long_s2 n k0) z
theorem noonmarkref04_Long_e1 (n : Nat) (k0 : St → Option (Int × Unit)) (rc : Code → An → St → (Ex → St → Option (Int × Unit)) → Option (Int × Unit)) (z : noonmarkref04_Long_t1) : codeR rc Try.prog noonmarkref04_Long_sp n (cr (cl (cr (cl (cr (bodyOf Try.f42)))))) noonmarkref04_Long_an.right.left.right.left.right (noonmarkref04_Long_m1 z) (kBlk 0 (kSeq k0 noonmarkref04_Long_an.right (kFin Try.prog noonmarkref04_Long_rs Try.f42))) = noonmarkref04_Long_p1 n (fun y => k0 (noonmarkref04_Long_m0 y)) (fun y => rc (cr (cr (cr (cr (cr (cl (cr (cl (cr (bodyOf Try.f42)))))))))) noonmarkref04_Long_an.right.left.right.left.right.right.right.right.right (noonmarkref04_Long_m2 y) (kBlk 0 (kSeq k0 noonmarkref04_Long_an.right (kFin Try.prog noonmarkref04_Long_rs Try.f42)))) z := by kernel_rfl
theorem noonmarkref04_Long_q1 (n : Nat) (k0 : St → Option (Int × Unit)) (z : noonmarkref04_Long_t1) : codeK Try.prog noonmarkref04_Long_sp n (cr (cl (cr (cl (cr (bodyOf Try.f42)))))) noonmarkref04_Long_an.right.left.right.left.right (noonmarkref04_Long_m1 z) (kBlk 0 (kSeq k0 noonmarkref04_Long_an.right (kFin Try.prog noonmarkref04_Long_rs Try.f42))) = noonmarkref04_Long_s1 n (fun y => k0 (noonmarkref04_Long_m0 y)) z := by
  have h2 : (fun y => codeK Try.prog noonmarkref04_Long_sp n (cr (cr (cr (cr (cr (cl (cr (cl (cr (bodyOf Try.f42)))))))))) noonmarkref04_Long_an.right.left.right.left.right.right.right.right.right (noonmarkref04_Long_m2 y) (kBlk 0 (kSeq k0 noonmarkref04_Long_an.right (kFin Try.prog noonmarkref04_Long_rs Try.f42)))) = (noonmarkref04_Long_s2 n (fun y => k0 (noonmarkref04_Long_m0 y))) := funext fun y => by
    have := noonmarkref04_Long_q2 n k0 y
    exact this
  rw [codeK_R, noonmarkref04_Long_e1]
  rw [h2]
  rfl
def noonmarkref04_Long_px (_n : Nat) (k0 : noonmarkref04_Long_t0 → Option (Int × Unit)) (k1 : noonmarkref04_Long_t1 → Option (Int × Unit)) (x : D_api_At) : Option (Int × Unit) :=
  bif (x.2.1 == 4) then
    k1 (x.1, x.2.1, true)
  else
    bif (x.2.1 == 6) then
      k1 (x.1, x.2.1, true)
    else
      bif (x.2.1 == 9) then
        k1 (x.1, x.2.1, true)
      else
        k1 (x.1, x.2.1, (x.2.1 == 11))
def noonmarkref04_Long (n : Nat) (x : D_api_At) : Option (Int × Unit) := noonmarkref04_Long_px n (noonmarkref04_Long_s0 n) (noonmarkref04_Long_s1 n (noonmarkref04_Long_s0 n)) x
theorem noonmarkref04_Long_ex (n : Nat) (rc : Code → An → St → (Ex → St → Option (Int × Unit)) → Option (Int × Unit)) (x : D_api_At) : codeR rc Try.prog noonmarkref04_Long_sp n (bodyOf Try.f42) noonmarkref04_Long_an (start noonmarkref04_Long_ps x (Func.ntmps Try.f42)) (kFin Try.prog noonmarkref04_Long_rs Try.f42) = noonmarkref04_Long_px n (fun y => rc (cr (cr (bodyOf Try.f42))) noonmarkref04_Long_an.right.right (noonmarkref04_Long_m0 y) (kFin Try.prog noonmarkref04_Long_rs Try.f42)) (fun y => rc (cr (cl (cr (cl (cr (bodyOf Try.f42)))))) noonmarkref04_Long_an.right.left.right.left.right (noonmarkref04_Long_m1 y) (kBlk 0 (kSeq (fun st => rc (cr (cr (bodyOf Try.f42))) noonmarkref04_Long_an.right.right st (kFin Try.prog noonmarkref04_Long_rs Try.f42)) noonmarkref04_Long_an.right (kFin Try.prog noonmarkref04_Long_rs Try.f42)))) x := by kernel_rfl
theorem noonmarkref04_Long_qx (n : Nat) (x : D_api_At) : codeK Try.prog noonmarkref04_Long_sp n (bodyOf Try.f42) noonmarkref04_Long_an (start noonmarkref04_Long_ps x (Func.ntmps Try.f42)) (kFin Try.prog noonmarkref04_Long_rs Try.f42) = noonmarkref04_Long n x := by
  have h0 : (fun y => codeK Try.prog noonmarkref04_Long_sp n (cr (cr (bodyOf Try.f42))) noonmarkref04_Long_an.right.right (noonmarkref04_Long_m0 y) (kFin Try.prog noonmarkref04_Long_rs Try.f42)) = (noonmarkref04_Long_s0 n) := funext fun y => by
    have := noonmarkref04_Long_q0 n  y
    exact this
  have h1 : (fun y => codeK Try.prog noonmarkref04_Long_sp n (cr (cl (cr (cl (cr (bodyOf Try.f42)))))) noonmarkref04_Long_an.right.left.right.left.right (noonmarkref04_Long_m1 y) (kBlk 0 (kSeq (fun st => codeK Try.prog noonmarkref04_Long_sp n (cr (cr (bodyOf Try.f42))) noonmarkref04_Long_an.right.right st (kFin Try.prog noonmarkref04_Long_rs Try.f42)) noonmarkref04_Long_an.right (kFin Try.prog noonmarkref04_Long_rs Try.f42)))) = (noonmarkref04_Long_s1 n (noonmarkref04_Long_s0 n)) := funext fun y => by
    have := noonmarkref04_Long_q1 n (fun st => codeK Try.prog noonmarkref04_Long_sp n (cr (cr (bodyOf Try.f42))) noonmarkref04_Long_an.right.right st (kFin Try.prog noonmarkref04_Long_rs Try.f42)) y
    rw [h0] at this; exact this
  rw [codeK_R, noonmarkref04_Long_ex]
  rw [h0]
  rw [h1]
  rfl
def noonmarkref04_Long_spec : Sp := ⟨noonmarkref04_Long_ps, noonmarkref04_Long_rs, noonmarkref04_Long⟩
theorem noonmarkref04_Long_ok : SoundX Try.prog CX 42 (.f noonmarkref04_Long_spec) := sound_of (look_cons noonmarkref04_Leap_ok look_nil) Try.func42 (by kernel_rfl) rfl noonmarkref04_Long_an noonmarkref04_Long_spec rfl rfl noonmarkref04_Long_qx

/-! ### noonmark/noonmarkref14.Span -/
abbrev noonmarkref14_Span_ps : Ty := (.pair (.list T_api_Rule) .unit)
abbrev noonmarkref14_Span_rs : Ty := (.pair (.int .i64) (.pair (.int .i64) (.pair .bool .unit)))
def noonmarkref14_Span_sp : Specs := look []
def noonmarkref14_Span_an : An := (.s .o (.s .o (.s .o (.k [] [5,6,7] 0 (.k [] [0,5,6,7,8] 0 .o (.b (.l [] [0,5,6,7,8] 0 (.s .o (.k [] [0,5,6,7,8] 0 .o .o))))) .o))))
abbrev noonmarkref14_Span_t0 := Int × Int × Bool
def noonmarkref14_Span_m0 (z : noonmarkref14_Span_t0) : St := ⟨[.junk, .junk, .junk, .junk, .junk, .v ⟨(.int .i64), z.1⟩, .v ⟨(.int .i64), z.2.1⟩, .v ⟨.bool, z.2.2⟩, .junk, .junk, .junk, .junk, .junk, .junk, .junk, .junk, .junk, .junk, .junk, .junk, .junk, .junk, .junk, .junk, .junk, .junk, .junk, .junk, .junk, .junk, .junk, .junk, .junk, .junk, .junk, .junk, .junk, .junk, .junk, .junk, .junk, .junk, .junk, .junk, .junk, .junk, .junk, .junk, .junk, .junk, .junk, .junk, .junk, .junk, .junk, .junk], []⟩
abbrev noonmarkref14_Span_t1 := (List D_api_Rule) × Int × Int × Bool × Int
def noonmarkref14_Span_m1 (z : noonmarkref14_Span_t1) : St := ⟨[.v ⟨(.list T_api_Rule), z.1⟩, .junk, .junk, .junk, .junk, .v ⟨(.int .i64), z.2.1⟩, .v ⟨(.int .i64), z.2.2.1⟩, .v ⟨.bool, z.2.2.2.1⟩, .v ⟨(.int .i64), z.2.2.2.2⟩, .junk, .junk, .junk, .junk, .junk, .junk, .junk, .junk, .junk, .junk, .junk, .junk, .junk, .junk, .junk, .junk, .junk, .junk, .junk, .junk, .junk, .junk, .junk, .junk, .junk, .junk, .junk, .junk, .junk, .junk, .junk, .junk, .junk, .junk, .junk, .junk, .junk, .junk, .junk, .junk, .junk, .junk, .junk, .junk, .junk, .junk, .junk], []⟩
abbrev noonmarkref14_Span_t2 := (List D_api_Rule) × Int × Int × Bool × Int
def noonmarkref14_Span_m2 (z : noonmarkref14_Span_t2) : St := ⟨[.v ⟨(.list T_api_Rule), z.1⟩, .junk, .junk, .junk, .junk, .v ⟨(.int .i64), z.2.1⟩, .v ⟨(.int .i64), z.2.2.1⟩, .v ⟨.bool, z.2.2.2.1⟩, .v ⟨(.int .i64), z.2.2.2.2⟩, .junk, .junk, .junk, .junk, .junk, .junk, .junk, .junk, .junk, .junk, .junk, .junk, .junk, .junk, .junk, .junk, .junk, .junk, .junk, .junk, .junk, .junk, .junk, .junk, .junk, .junk, .junk, .junk, .junk, .junk, .junk, .junk, .junk, .junk, .junk, .junk, .junk, .junk, .junk, .junk, .junk, .junk, .junk, .junk, .junk, .junk, .junk], []⟩
abbrev noonmarkref14_Span_t3 := (List D_api_Rule) × Int × Int × Bool × Int
def noonmarkref14_Span_m3 (z : noonmarkref14_Span_t3) : St := ⟨[.v ⟨(.list T_api_Rule), z.1⟩, .junk, .junk, .junk, .junk, .v ⟨(.int .i64), z.2.1⟩, .v ⟨(.int .i64), z.2.2.1⟩, .v ⟨.bool, z.2.2.2.1⟩, .v ⟨(.int .i64), z.2.2.2.2⟩, .junk, .junk, .junk, .junk, .junk, .junk, .junk, .junk, .junk, .junk, .junk, .junk, .junk, .junk, .junk, .junk, .junk, .junk, .junk, .junk, .junk, .junk, .junk, .junk, .junk, .junk, .junk, .junk, .junk, .junk, .junk, .junk, .junk, .junk, .junk, .junk, .junk, .junk, .junk, .junk, .junk, .junk, .junk, .junk, .junk, .junk, .junk], []⟩
def noonmarkref14_Span_p0 (_n : Nat) (z : noonmarkref14_Span_t0) : Option (Int × (Int × (Bool × Unit))) :=
  some (z.1, (z.2.1, (z.2.2, ())))
def noonmarkref14_Span_s0 (n : Nat) (z : noonmarkref14_Span_t0) : Option (Int × (Int × (Bool × Unit))) := noonmarkref14_Span_p0 n z
theorem noonmarkref14_Span_e0 (n : Nat) (rc : Code → An → St → (Ex → St → Option (Int × (Int × (Bool × Unit)))) → Option (Int × (Int × (Bool × Unit)))) (z : noonmarkref14_Span_t0) : codeR rc Try.prog noonmarkref14_Span_sp n (cr (cr (cr (cr (bodyOf Try.f43))))) noonmarkref14_Span_an.right.right.right.right (noonmarkref14_Span_m0 z) (kFin Try.prog noonmarkref14_Span_rs Try.f43) = noonmarkref14_Span_p0 n z := by kernel_rfl
theorem noonmarkref14_Span_q0 (n : Nat) (z : noonmarkref14_Span_t0) : codeK Try.prog noonmarkref14_Span_sp n (cr (cr (cr (cr (bodyOf Try.f43))))) noonmarkref14_Span_an.right.right.right.right (noonmarkref14_Span_m0 z) (kFin Try.prog noonmarkref14_Span_rs Try.f43) = noonmarkref14_Span_s0 n z := by
  rw [codeK_R, noonmarkref14_Span_e0]
  rfl
def noonmarkref14_Span_p3 (_n : Nat) (_k0 : noonmarkref14_Span_t0 → Option (Int × (Int × (Bool × Unit)))) (r2 : noonmarkref14_Span_t2 → Option (Int × (Int × (Bool × Unit)))) (z : noonmarkref14_Span_t3) : Option (Int × (Int × (Bool × Unit))) :=
  r2 (z.1, z.2.1, z.2.2.1, z.2.2.2.1, (w64 (z.2.2.2.2 + 1)))
def noonmarkref14_Span_s3 (n : Nat) (k0 : noonmarkref14_Span_t0 → Option (Int × (Int × (Bool × Unit)))) (r2 : noonmarkref14_Span_t2 → Option (Int × (Int × (Bool × Unit)))) (z : noonmarkref14_Span_t3) : Option (Int × (Int × (Bool × Unit))) := noonmarkref14_Span_p3 n k0 r2 z
theorem noonmarkref14_Span_e3 (n : Nat) (k0 : St → Option (Int × (Int × (Bool × Unit)))) (r2 : St → Option (Int × (Int × (Bool × Unit)))) (rc : Code → An → St → (Ex → St → Option (Int × (Int × (Bool × Unit)))) → Option (Int × (Int × (Bool × Unit)))) (z : noonmarkref14_Span_t3) : codeR rc Try.prog noonmarkref14_Span_sp n (cr (cr (cl (cl (cr (cl (cr (cr (cr (bodyOf Try.f43)))))))))) noonmarkref14_Span_an.right.right.right.left.right.left.left.right.right (noonmarkref14_Span_m3 z) (kSeq r2 noonmarkref14_Span_an.right.right.right.left.right.left (kBlk 0 (kSeq k0 noonmarkref14_Span_an.right.right.right (kFin Try.prog noonmarkref14_Span_rs Try.f43)))) = noonmarkref14_Span_p3 n (fun y => k0 (noonmarkref14_Span_m0 y)) (fun y => r2 (noonmarkref14_Span_m2 y)) z := by kernel_rfl
theorem noonmarkref14_Span_q3 (n : Nat) (k0 : St → Option (Int × (Int × (Bool × Unit)))) (r2 : St → Option (Int × (Int × (Bool × Unit)))) (z : noonmarkref14_Span_t3) : codeK Try.prog noonmarkref14_Span_sp n (cr (cr (cl (cl (cr (cl (cr (cr (cr (bodyOf Try.f43)))))))))) noonmarkref14_Span_an.right.right.right.left.right.left.left.right.right (noonmarkref14_Span_m3 z) (kSeq r2 noonmarkref14_Span_an.right.right.right.left.right.left (kBlk 0 (kSeq k0 noonmarkref14_Span_an.right.right.right (kFin Try.prog noonmarkref14_Span_rs Try.f43)))) = noonmarkref14_Span_s3 n (fun y => k0 (noonmarkref14_Span_m0 y)) (fun y => r2 (noonmarkref14_Span_m2 y)) z := by
  rw [codeK_R, noonmarkref14_Span_e3]
  rfl
def noonmarkref14_Span_p2 (_n : Nat) (k0 : noonmarkref14_Span_t0 → Option (Int × (Int × (Bool × Unit)))) (_r2 : noonmarkref14_Span_t2 → Option (Int × (Int × (Bool × Unit)))) (k3 : noonmarkref14_Span_t3 → Option (Int × (Int × (Bool × Unit)))) (z : noonmarkref14_Span_t2) : Option (Int × (Int × (Bool × Unit))) :=
  bif (decide (z.2.2.2.2 < (List.length z.1 : Int))) then
    bif decide (0 ≤ z.2.2.2.2) then
      ((z.1[Int.toNat z.2.2.2.2]?)).bind fun e3 =>
      let t4 := imin z.2.1 e3.2.1
      bif decide (0 ≤ z.2.2.2.2) then
        ((z.1[Int.toNat z.2.2.2.2]?)).bind fun e5 =>
        bif (e5.2.2.1 == 10000) then
          bif decide (0 ≤ z.2.2.2.2) then
            ((z.1[Int.toNat z.2.2.2.2]?)).bind fun e6 =>
            k3 (z.1, t4, (imax z.2.2.1 e6.2.1), true, z.2.2.2.2)
          else none
        else
          bif decide (0 ≤ z.2.2.2.2) then
            ((z.1[Int.toNat z.2.2.2.2]?)).bind fun e8 =>
            k3 (z.1, t4, (imax z.2.2.1 e8.2.2.1), z.2.2.2.1, z.2.2.2.2)
          else none
      else none
    else none
  else
    k0 (z.2.1, z.2.2.1, z.2.2.2.1)
def noonmarkref14_Span_s2 (n : Nat) (k0 : noonmarkref14_Span_t0 → Option (Int × (Int × (Bool × Unit)))) (r2 : noonmarkref14_Span_t2 → Option (Int × (Int × (Bool × Unit)))) (z : noonmarkref14_Span_t2) : Option (Int × (Int × (Bool × Unit))) := noonmarkref14_Span_p2 n k0 r2 (noonmarkref14_Span_s3 n k0 r2) z
theorem noonmarkref14_Span_e2 (n : Nat) (k0 : St → Option (Int × (Int × (Bool × Unit)))) (r2 : St → Option (Int × (Int × (Bool × Unit)))) (rc : Code → An → St → (Ex → St → Option (Int × (Int × (Bool × Unit)))) → Option (Int × (Int × (Bool × Unit)))) (z : noonmarkref14_Span_t2) : codeR rc Try.prog noonmarkref14_Span_sp n (cl (cl (cr (cl (cr (cr (cr (bodyOf Try.f43)))))))) noonmarkref14_Span_an.right.right.right.left.right.left.left (noonmarkref14_Span_m2 z) (kSeq r2 noonmarkref14_Span_an.right.right.right.left.right.left (kBlk 0 (kSeq k0 noonmarkref14_Span_an.right.right.right (kFin Try.prog noonmarkref14_Span_rs Try.f43)))) = noonmarkref14_Span_p2 n (fun y => k0 (noonmarkref14_Span_m0 y)) (fun y => r2 (noonmarkref14_Span_m2 y)) (fun y => rc (cr (cr (cl (cl (cr (cl (cr (cr (cr (bodyOf Try.f43)))))))))) noonmarkref14_Span_an.right.right.right.left.right.left.left.right.right (noonmarkref14_Span_m3 y) (kSeq r2 noonmarkref14_Span_an.right.right.right.left.right.left (kBlk 0 (kSeq k0 noonmarkref14_Span_an.right.right.right (kFin Try.prog noonmarkref14_Span_rs Try.f43))))) z := by kernel_rfl
theorem noonmarkref14_Span_q2 (n : Nat) (k0 : St → Option (Int × (Int × (Bool × Unit)))) (r2 : St → Option (Int × (Int × (Bool × Unit)))) (z : noonmarkref14_Span_t2) : codeK Try.prog noonmarkref14_Span_sp n (cl (cl (cr (cl (cr (cr (cr (bodyOf Try.f43)))))))) noonmarkref14_Span_an.right.right.right.left.right.left.left (noonmarkref14_Span_m2 z) (kSeq r2 noonmarkref14_Span_an.right.right.right.left.right.left (kBlk 0 (kSeq k0 noonmarkref14_Span_an.right.right.right (kFin Try.prog noonmarkref14_Span_rs Try.f43)))) = noonmarkref14_Span_s2 n (fun y => k0 (noonmarkref14_Span_m0 y)) (fun y => r2 (noonmarkref14_Span_m2 y)) z := by
  have h3 : (fun y => codeK Try.prog noonmarkref14_Span_sp n (cr (cr (cl (cl (cr (cl (cr (cr (cr (bodyOf Try.f43)))))))))) noonmarkref14_Span_an.right.right.right.left.right.left.left.right.right (noonmarkref14_Span_m3 y) (kSeq r2 noonmarkref14_Span_an.right.right.right.left.right.left (kBlk 0 (kSeq k0 noonmarkref14_Span_an.right.right.right (kFin Try.prog noonmarkref14_Span_rs Try.f43))))) = (noonmarkref14_Span_s3 n (fun y => k0 (noonmarkref14_Span_m0 y)) (fun y => r2 (noonmarkref14_Span_m2 y))) := funext fun y => by
    have := noonmarkref14_Span_q3 n k0 r2 y
    exact this
  rw [codeK_R, noonmarkref14_Span_e2]
  rw [h3]
  rfl
def noonmarkref14_Span_s1 (n : Nat) (k0 : noonmarkref14_Span_t0 → Option (Int × (Int × (Bool × Unit)))) (z : noonmarkref14_Span_t1) : Option (Int × (Int × (Bool × Unit))) :=
  rounds (fun r2 x' => noonmarkref14_Span_s2 n k0 r2 x') n (z.1, z.2.1, z.2.2.1, z.2.2.2.1, z.2.2.2.2)
theorem noonmarkref14_Span_q1 (n : Nat) (k0 : St → Option (Int × (Int × (Bool × Unit)))) (z : noonmarkref14_Span_t1) : codeK Try.prog noonmarkref14_Span_sp n (cr (cl (cr (cr (cr (bodyOf Try.f43)))))) noonmarkref14_Span_an.right.right.right.left.right (noonmarkref14_Span_m1 z) (kSeq k0 noonmarkref14_Span_an.right.right.right (kFin Try.prog noonmarkref14_Span_rs Try.f43)) = noonmarkref14_Span_s1 n (fun y => k0 (noonmarkref14_Span_m0 y)) z :=
  Eq.trans (b := rounds (fun r2 st => codeK Try.prog noonmarkref14_Span_sp n (cl (cl (cr (cl (cr (cr (cr (bodyOf Try.f43)))))))) noonmarkref14_Span_an.right.right.right.left.right.left.left st (kSeq r2 noonmarkref14_Span_an.right.right.right.left.right.left (kBlk 0 (kSeq k0 noonmarkref14_Span_an.right.right.right (kFin Try.prog noonmarkref14_Span_rs Try.f43))))) n (noonmarkref14_Span_m2 (z.1, z.2.1, z.2.2.1, z.2.2.2.1, z.2.2.2.2))) (by kernel_rfl) (rounds_mk noonmarkref14_Span_m2 (fun r2 x' => by
    have := (noonmarkref14_Span_q2 n k0 r2 x')
    exact this) n _)
def noonmarkref14_Span_px (_n : Nat) (k0 : noonmarkref14_Span_t0 → Option (Int × (Int × (Bool × Unit)))) (k1 : noonmarkref14_Span_t1 → Option (Int × (Int × (Bool × Unit)))) (x : ((List D_api_Rule) × Unit)) : Option (Int × (Int × (Bool × Unit))) :=
  bif ((List.length x.1 : Int) == 0) then
    some ((0 : Int), ((0 : Int), (false, ())))
  else
    ((x.1[Int.toNat (0 : Int)]?)).bind fun e1 =>
    ((x.1[Int.toNat (0 : Int)]?)).bind fun e2 =>
    k1 (x.1, e1.2.1, e2.2.1, false, (0 : Int))
def noonmarkref14_Span (n : Nat) (x : ((List D_api_Rule) × Unit)) : Option (Int × (Int × (Bool × Unit))) := noonmarkref14_Span_px n (noonmarkref14_Span_s0 n) (noonmarkref14_Span_s1 n (noonmarkref14_Span_s0 n)) x
theorem noonmarkref14_Span_ex (n : Nat) (rc : Code → An → St → (Ex → St → Option (Int × (Int × (Bool × Unit)))) → Option (Int × (Int × (Bool × Unit)))) (x : ((List D_api_Rule) × Unit)) : codeR rc Try.prog noonmarkref14_Span_sp n (bodyOf Try.f43) noonmarkref14_Span_an (start noonmarkref14_Span_ps x (Func.ntmps Try.f43)) (kFin Try.prog noonmarkref14_Span_rs Try.f43) = noonmarkref14_Span_px n (fun y => rc (cr (cr (cr (cr (bodyOf Try.f43))))) noonmarkref14_Span_an.right.right.right.right (noonmarkref14_Span_m0 y) (kFin Try.prog noonmarkref14_Span_rs Try.f43)) (fun y => rc (cr (cl (cr (cr (cr (bodyOf Try.f43)))))) noonmarkref14_Span_an.right.right.right.left.right (noonmarkref14_Span_m1 y) (kSeq (fun st => rc (cr (cr (cr (cr (bodyOf Try.f43))))) noonmarkref14_Span_an.right.right.right.right st (kFin Try.prog noonmarkref14_Span_rs Try.f43)) noonmarkref14_Span_an.right.right.right (kFin Try.prog noonmarkref14_Span_rs Try.f43))) x := by kernel_rfl
theorem noonmarkref14_Span_qx (n : Nat) (x : ((List D_api_Rule) × Unit)) : codeK Try.prog noonmarkref14_Span_sp n (bodyOf Try.f43) noonmarkref14_Span_an (start noonmarkref14_Span_ps x (Func.ntmps Try.f43)) (kFin Try.prog noonmarkref14_Span_rs Try.f43) = noonmarkref14_Span n x := by
  have h0 : (fun y => codeK Try.prog noonmarkref14_Span_sp n (cr (cr (cr (cr (bodyOf Try.f43))))) noonmarkref14_Span_an.right.right.right.right (noonmarkref14_Span_m0 y) (kFin Try.prog noonmarkref14_Span_rs Try.f43)) = (noonmarkref14_Span_s0 n) := funext fun y => by
    have := noonmarkref14_Span_q0 n  y
    exact this
  have h1 : (fun y => codeK Try.prog noonmarkref14_Span_sp n (cr (cl (cr (cr (cr (bodyOf Try.f43)))))) noonmarkref14_Span_an.right.right.right.left.right (noonmarkref14_Span_m1 y) (kSeq (fun st => codeK Try.prog noonmarkref14_Span_sp n (cr (cr (cr (cr (bodyOf Try.f43))))) noonmarkref14_Span_an.right.right.right.right st (kFin Try.prog noonmarkref14_Span_rs Try.f43)) noonmarkref14_Span_an.right.right.right (kFin Try.prog noonmarkref14_Span_rs Try.f43))) = (noonmarkref14_Span_s1 n (noonmarkref14_Span_s0 n)) := funext fun y => by
    have := noonmarkref14_Span_q1 n (fun st => codeK Try.prog noonmarkref14_Span_sp n (cr (cr (cr (cr (bodyOf Try.f43))))) noonmarkref14_Span_an.right.right.right.right st (kFin Try.prog noonmarkref14_Span_rs Try.f43)) y
    rw [h0] at this; exact this
  rw [codeK_R, noonmarkref14_Span_ex]
  rw [h0]
  rw [h1]
  rfl
def noonmarkref14_Span_spec : Sp := ⟨noonmarkref14_Span_ps, noonmarkref14_Span_rs, noonmarkref14_Span⟩
theorem noonmarkref14_Span_ok : SoundX Try.prog CX 43 (.f noonmarkref14_Span_spec) := sound_of look_nil Try.func43 (by kernel_rfl) rfl noonmarkref14_Span_an noonmarkref14_Span_spec rfl rfl noonmarkref14_Span_qx

/-! ### noonmark/noonmarkref06.Right -/
abbrev noonmarkref06_Right_ps : Ty := (.pair T_api_Day .unit)
abbrev noonmarkref06_Right_rs : Ty := (.pair .bool .unit)
def noonmarkref06_Right_sp : Specs := look []
def noonmarkref06_Right_an : An := (.s .o (.s .o (.s .o (.k [] [] 0 (.s .o (.b (.s .o (.c .o (.s .o (.c .o (.k [] [3,4,39] 0 .o .o))))))) .o))))
abbrev noonmarkref06_Right_t0 := Unit
def noonmarkref06_Right_m0 (_z : noonmarkref06_Right_t0) : St := ⟨[.junk, .junk, .junk, .junk, .junk, .junk, .junk, .junk, .junk, .junk, .junk, .junk, .junk, .junk, .junk, .junk, .junk, .junk, .junk, .junk, .junk, .junk, .junk, .junk, .junk, .junk, .junk, .junk, .junk, .junk, .junk, .junk, .junk, .junk, .junk, .junk, .junk, .junk, .junk, .junk, .junk, .junk, .junk, .junk, .junk, .junk], []⟩
abbrev noonmarkref06_Right_t1 := Bool × Bool × Bool
def noonmarkref06_Right_m1 (z : noonmarkref06_Right_t1) : St := ⟨[.junk, .junk, .junk, .v ⟨.bool, z.1⟩, .v ⟨.bool, z.2.1⟩, .junk, .junk, .junk, .junk, .junk, .junk, .junk, .junk, .junk, .junk, .junk, .junk, .junk, .junk, .junk, .junk, .junk, .junk, .junk, .junk, .junk, .junk, .junk, .junk, .junk, .junk, .junk, .junk, .junk, .junk, .junk, .junk, .junk, .junk, .v ⟨.bool, z.2.2⟩, .junk, .junk, .junk, .junk, .junk, .junk], []⟩
def noonmarkref06_Right_p0 (_n : Nat) (_z : noonmarkref06_Right_t0) : Option (Bool × Unit) :=
  some (false, ())
def noonmarkref06_Right_s0 (n : Nat) (z : noonmarkref06_Right_t0) : Option (Bool × Unit) := noonmarkref06_Right_p0 n z
theorem noonmarkref06_Right_e0 (n : Nat) (rc : Code → An → St → (Ex → St → Option (Bool × Unit)) → Option (Bool × Unit)) (z : noonmarkref06_Right_t0) : codeR rc Try.prog noonmarkref06_Right_sp n (cr (cr (cr (cr (bodyOf Try.f58))))) noonmarkref06_Right_an.right.right.right.right (noonmarkref06_Right_m0 z) (kFin Try.prog noonmarkref06_Right_rs Try.f58) = noonmarkref06_Right_p0 n z := by kernel_rfl
theorem noonmarkref06_Right_q0 (n : Nat) (z : noonmarkref06_Right_t0) : codeK Try.prog noonmarkref06_Right_sp n (cr (cr (cr (cr (bodyOf Try.f58))))) noonmarkref06_Right_an.right.right.right.right (noonmarkref06_Right_m0 z) (kFin Try.prog noonmarkref06_Right_rs Try.f58) = noonmarkref06_Right_s0 n z := by
  rw [codeK_R, noonmarkref06_Right_e0]
  rfl
def noonmarkref06_Right_p1 (_n : Nat) (k0 : noonmarkref06_Right_t0 → Option (Bool × Unit)) (z : noonmarkref06_Right_t1) : Option (Bool × Unit) :=
  bif z.2.2 then
    bif z.1 then
      some (z.2.1, ())
    else
      some (false, ())
  else
    k0 ()
def noonmarkref06_Right_s1 (n : Nat) (k0 : noonmarkref06_Right_t0 → Option (Bool × Unit)) (z : noonmarkref06_Right_t1) : Option (Bool × Unit) := noonmarkref06_Right_p1 n k0 z
theorem noonmarkref06_Right_e1 (n : Nat) (k0 : St → Option (Bool × Unit)) (rc : Code → An → St → (Ex → St → Option (Bool × Unit)) → Option (Bool × Unit)) (z : noonmarkref06_Right_t1) : codeR rc Try.prog noonmarkref06_Right_sp n (cr (cr (cr (cr (cr (cl (cr (cl (cr (cr (cr (bodyOf Try.f58)))))))))))) noonmarkref06_Right_an.right.right.right.left.right.left.right.right.right.right.right (noonmarkref06_Right_m1 z) (kBlk 0 (kSeq k0 noonmarkref06_Right_an.right.right.right (kFin Try.prog noonmarkref06_Right_rs Try.f58))) = noonmarkref06_Right_p1 n (fun y => k0 (noonmarkref06_Right_m0 y)) z := by kernel_rfl
theorem noonmarkref06_Right_q1 (n : Nat) (k0 : St → Option (Bool × Unit)) (z : noonmarkref06_Right_t1) : codeK Try.prog noonmarkref06_Right_sp n (cr (cr (cr (cr (cr (cl (cr (cl (cr (cr (cr (bodyOf Try.f58)))))))))))) noonmarkref06_Right_an.right.right.right.left.right.left.right.right.right.right.right (noonmarkref06_Right_m1 z) (kBlk 0 (kSeq k0 noonmarkref06_Right_an.right.right.right (kFin Try.prog noonmarkref06_Right_rs Try.f58))) = noonmarkref06_Right_s1 n (fun y => k0 (noonmarkref06_Right_m0 y)) z := by
  rw [codeK_R, noonmarkref06_Right_e1]
  rfl
def noonmarkref06_Right_px (_n : Nat) (k0 : noonmarkref06_Right_t0 → Option (Bool × Unit)) (k1 : noonmarkref06_Right_t1 → Option (Bool × Unit)) (x : (D_api_Day × Unit)) : Option (Bool × Unit) :=
  bif (decide (x.1.2.1 ≥ 1)) then
    bif (decide (x.1.2.2.1 ≥ 0)) then
      bif (x.1.1 == 0) then
        bif (decide (x.1.2.1 ≤ 31)) then
          some ((x.1.2.2.1 == 0), ())
        else
          some (false, ())
      else
        bif (x.1.1 == 1) then
          bif (decide (x.1.2.2.1 ≤ 6)) then
            some ((x.1.2.1 == 0), ())
          else
            some (false, ())
        else
          bif (x.1.1 == 2) then
            k1 ((decide (x.1.2.1 ≤ 31)), (decide (x.1.2.2.1 ≤ 6)), true)
          else
            k1 ((decide (x.1.2.1 ≤ 31)), (decide (x.1.2.2.1 ≤ 6)), (x.1.1 == 3))
    else
      bif (x.1.1 == 0) then
        bif (decide (x.1.2.1 ≤ 31)) then
          some ((x.1.2.2.1 == 0), ())
        else
          some (false, ())
      else
        bif (x.1.1 == 1) then
          some (false, ())
        else
          bif (x.1.1 == 2) then
            k1 ((decide (x.1.2.1 ≤ 31)), false, true)
          else
            k1 ((decide (x.1.2.1 ≤ 31)), false, (x.1.1 == 3))
  else
    bif (decide (x.1.2.2.1 ≥ 0)) then
      bif (x.1.1 == 0) then
        some (false, ())
      else
        bif (x.1.1 == 1) then
          bif (decide (x.1.2.2.1 ≤ 6)) then
            some ((x.1.2.1 == 0), ())
          else
            some (false, ())
        else
          bif (x.1.1 == 2) then
            k1 (false, (decide (x.1.2.2.1 ≤ 6)), true)
          else
            k1 (false, (decide (x.1.2.2.1 ≤ 6)), (x.1.1 == 3))
    else
      bif (x.1.1 == 0) then
        some (false, ())
      else
        bif (x.1.1 == 1) then
          some (false, ())
        else
          bif (x.1.1 == 2) then
            k1 (false, false, true)
          else
            k1 (false, false, (x.1.1 == 3))
def noonmarkref06_Right (n : Nat) (x : (D_api_Day × Unit)) : Option (Bool × Unit) := noonmarkref06_Right_px n (noonmarkref06_Right_s0 n) (noonmarkref06_Right_s1 n (noonmarkref06_Right_s0 n)) x
theorem noonmarkref06_Right_ex (n : Nat) (rc : Code → An → St → (Ex → St → Option (Bool × Unit)) → Option (Bool × Unit)) (x : (D_api_Day × Unit)) : codeR rc Try.prog noonmarkref06_Right_sp n (bodyOf Try.f58) noonmarkref06_Right_an (start noonmarkref06_Right_ps x (Func.ntmps Try.f58)) (kFin Try.prog noonmarkref06_Right_rs Try.f58) = noonmarkref06_Right_px n (fun y => rc (cr (cr (cr (cr (bodyOf Try.f58))))) noonmarkref06_Right_an.right.right.right.right (noonmarkref06_Right_m0 y) (kFin Try.prog noonmarkref06_Right_rs Try.f58)) (fun y => rc (cr (cr (cr (cr (cr (cl (cr (cl (cr (cr (cr (bodyOf Try.f58)))))))))))) noonmarkref06_Right_an.right.right.right.left.right.left.right.right.right.right.right (noonmarkref06_Right_m1 y) (kBlk 0 (kSeq (fun st => rc (cr (cr (cr (cr (bodyOf Try.f58))))) noonmarkref06_Right_an.right.right.right.right st (kFin Try.prog noonmarkref06_Right_rs Try.f58)) noonmarkref06_Right_an.right.right.right (kFin Try.prog noonmarkref06_Right_rs Try.f58)))) x := by kernel_rfl
theorem noonmarkref06_Right_qx (n : Nat) (x : (D_api_Day × Unit)) : codeK Try.prog noonmarkref06_Right_sp n (bodyOf Try.f58) noonmarkref06_Right_an (start noonmarkref06_Right_ps x (Func.ntmps Try.f58)) (kFin Try.prog noonmarkref06_Right_rs Try.f58) = noonmarkref06_Right n x := by
  have h0 : (fun y => codeK Try.prog noonmarkref06_Right_sp n (cr (cr (cr (cr (bodyOf Try.f58))))) noonmarkref06_Right_an.right.right.right.right (noonmarkref06_Right_m0 y) (kFin Try.prog noonmarkref06_Right_rs Try.f58)) = (noonmarkref06_Right_s0 n) := funext fun y => by
    have := noonmarkref06_Right_q0 n  y
    exact this
  have h1 : (fun y => codeK Try.prog noonmarkref06_Right_sp n (cr (cr (cr (cr (cr (cl (cr (cl (cr (cr (cr (bodyOf Try.f58)))))))))))) noonmarkref06_Right_an.right.right.right.left.right.left.right.right.right.right.right (noonmarkref06_Right_m1 y) (kBlk 0 (kSeq (fun st => codeK Try.prog noonmarkref06_Right_sp n (cr (cr (cr (cr (bodyOf Try.f58))))) noonmarkref06_Right_an.right.right.right.right st (kFin Try.prog noonmarkref06_Right_rs Try.f58)) noonmarkref06_Right_an.right.right.right (kFin Try.prog noonmarkref06_Right_rs Try.f58)))) = (noonmarkref06_Right_s1 n (noonmarkref06_Right_s0 n)) := funext fun y => by
    have := noonmarkref06_Right_q1 n (fun st => codeK Try.prog noonmarkref06_Right_sp n (cr (cr (cr (cr (bodyOf Try.f58))))) noonmarkref06_Right_an.right.right.right.right st (kFin Try.prog noonmarkref06_Right_rs Try.f58)) y
    rw [h0] at this; exact this
  rw [codeK_R, noonmarkref06_Right_ex]
  rw [h0]
  rw [h1]
  rfl
def noonmarkref06_Right_spec : Sp := ⟨noonmarkref06_Right_ps, noonmarkref06_Right_rs, noonmarkref06_Right⟩
theorem noonmarkref06_Right_ok : SoundX Try.prog CX 58 (.f noonmarkref06_Right_spec) := sound_of look_nil Try.func58 (by kernel_rfl) rfl noonmarkref06_Right_an noonmarkref06_Right_spec rfl rfl noonmarkref06_Right_qx

/-! ### noonmark/noonmarkref04.Right -/
abbrev noonmarkref04_Right_ps : Ty := T_api_Day
abbrev noonmarkref04_Right_rs : Ty := (.pair .bool .unit)
def noonmarkref04_Right_sp : Specs := look [(42, .f noonmarkref04_Long_spec)]
def noonmarkref04_Right_an : An := .o
def noonmarkref04_Right_px (n : Nat) (x : D_api_Day) : Option (Bool × Unit) :=
  bif (decide (x.1 ≥ (-9999))) then
    bif (decide (x.1 ≤ 9999)) then
      bif (decide (x.2.1 ≥ 1)) then
        bif (decide (x.2.1 ≤ 12)) then
          bif (decide (x.2.2.1 ≥ 1)) then
            ((noonmarkref04_Long n (x.1, (x.2.1, ())))).bind fun v1 =>
            some ((decide (x.2.2.1 ≤ v1.1)), ())
          else
            some (false, ())
        else
          some (false, ())
      else
        some (false, ())
    else
      some (false, ())
  else
    some (false, ())
def noonmarkref04_Right (n : Nat) (x : D_api_Day) : Option (Bool × Unit) := noonmarkref04_Right_px n x
theorem noonmarkref04_Right_ex (n : Nat) (rc : Code → An → St → (Ex → St → Option (Bool × Unit)) → Option (Bool × Unit)) (x : D_api_Day) : codeR rc Try.prog noonmarkref04_Right_sp n (bodyOf Try.f59) noonmarkref04_Right_an (start noonmarkref04_Right_ps x (Func.ntmps Try.f59)) (kFin Try.prog noonmarkref04_Right_rs Try.f59) = noonmarkref04_Right_px n x := by kernel_rfl
theorem noonmarkref04_Right_qx (n : Nat) (x : D_api_Day) : codeK Try.prog noonmarkref04_Right_sp n (bodyOf Try.f59) noonmarkref04_Right_an (start noonmarkref04_Right_ps x (Func.ntmps Try.f59)) (kFin Try.prog noonmarkref04_Right_rs Try.f59) = noonmarkref04_Right n x := by
  rw [codeK_R, noonmarkref04_Right_ex]
  rfl
def noonmarkref04_Right_spec : Sp := ⟨noonmarkref04_Right_ps, noonmarkref04_Right_rs, noonmarkref04_Right⟩
theorem noonmarkref04_Right_ok : SoundX Try.prog CX 59 (.f noonmarkref04_Right_spec) := sound_of (look_cons noonmarkref04_Long_ok look_nil) Try.func59 (by kernel_rfl) rfl noonmarkref04_Right_an noonmarkref04_Right_spec rfl rfl noonmarkref04_Right_qx

/-! ### noonmark/noonmarkref04.Days -/
abbrev noonmarkref04_Days_ps : Ty := T_api_Day
abbrev noonmarkref04_Days_rs : Ty := T_api_At
def noonmarkref04_Days_sp : Specs := look [(41, .f noonmarkref04_year_spec), (42, .f noonmarkref04_Long_spec), (59, .f noonmarkref04_Right_spec)]
def noonmarkref04_Days_an : An := (.s .o (.s .o (.s .o (.k [] [2,8] 0 (.k [] [0,1,2,8,9] 0 .o (.b (.l [] [0,1,2,8,9] 0 .o))) .o))))
abbrev noonmarkref04_Days_t0 := Int × Int
def noonmarkref04_Days_m0 (z : noonmarkref04_Days_t0) : St := ⟨[.junk, .junk, .v ⟨(.int .i64), z.1⟩, .junk, .junk, .junk, .junk, .junk, .v ⟨(.int .i64), z.2⟩, .junk, .junk, .junk, .junk, .junk, .junk, .junk, .junk, .junk, .junk, .junk, .junk, .junk, .junk, .junk, .junk, .junk, .junk, .junk, .junk, .junk, .junk], []⟩
abbrev noonmarkref04_Days_t1 := Int × Int × Int × Int × Int
def noonmarkref04_Days_m1 (z : noonmarkref04_Days_t1) : St := ⟨[.v ⟨(.int .i64), z.1⟩, .v ⟨(.int .i64), z.2.1⟩, .v ⟨(.int .i64), z.2.2.1⟩, .junk, .junk, .junk, .junk, .junk, .v ⟨(.int .i64), z.2.2.2.1⟩, .v ⟨(.int .i64), z.2.2.2.2⟩, .junk, .junk, .junk, .junk, .junk, .junk, .junk, .junk, .junk, .junk, .junk, .junk, .junk, .junk, .junk, .junk, .junk, .junk, .junk, .junk, .junk], []⟩
abbrev noonmarkref04_Days_t2 := Int × Int × Int × Int × Int
def noonmarkref04_Days_m2 (z : noonmarkref04_Days_t2) : St := ⟨[.v ⟨(.int .i64), z.1⟩, .v ⟨(.int .i64), z.2.1⟩, .v ⟨(.int .i64), z.2.2.1⟩, .junk, .junk, .junk, .junk, .junk, .v ⟨(.int .i64), z.2.2.2.1⟩, .v ⟨(.int .i64), z.2.2.2.2⟩, .junk, .junk, .junk, .junk, .junk, .junk, .junk, .junk, .junk, .junk, .junk, .junk, .junk, .junk, .junk, .junk, .junk, .junk, .junk, .junk, .junk], []⟩
def noonmarkref04_Days_p0 (_n : Nat) (z : noonmarkref04_Days_t0) : Option D_api_At :=
  some ((w64 ((w64 (z.2 + z.1)) - 1)), ((0 : Int), ()))
def noonmarkref04_Days_s0 (n : Nat) (z : noonmarkref04_Days_t0) : Option D_api_At := noonmarkref04_Days_p0 n z
theorem noonmarkref04_Days_e0 (n : Nat) (rc : Code → An → St → (Ex → St → Option D_api_At) → Option D_api_At) (z : noonmarkref04_Days_t0) : codeR rc Try.prog noonmarkref04_Days_sp n (cr (cr (cr (cr (bodyOf Try.f60))))) noonmarkref04_Days_an.right.right.right.right (noonmarkref04_Days_m0 z) (kFin Try.prog noonmarkref04_Days_rs Try.f60) = noonmarkref04_Days_p0 n z := by kernel_rfl
theorem noonmarkref04_Days_q0 (n : Nat) (z : noonmarkref04_Days_t0) : codeK Try.prog noonmarkref04_Days_sp n (cr (cr (cr (cr (bodyOf Try.f60))))) noonmarkref04_Days_an.right.right.right.right (noonmarkref04_Days_m0 z) (kFin Try.prog noonmarkref04_Days_rs Try.f60) = noonmarkref04_Days_s0 n z := by
  rw [codeK_R, noonmarkref04_Days_e0]
  rfl
def noonmarkref04_Days_p2 (n : Nat) (k0 : noonmarkref04_Days_t0 → Option D_api_At) (r2 : noonmarkref04_Days_t2 → Option D_api_At) (z : noonmarkref04_Days_t2) : Option D_api_At :=
  bif (decide (z.2.2.2.2 < z.2.1)) then
    ((noonmarkref04_Long n (z.1, (z.2.2.2.2, ())))).bind fun v3 =>
    r2 (z.1, z.2.1, z.2.2.1, (w64 (z.2.2.2.1 + v3.1)), (w64 (z.2.2.2.2 + 1)))
  else
    k0 (z.2.2.1, z.2.2.2.1)
def noonmarkref04_Days_s2 (n : Nat) (k0 : noonmarkref04_Days_t0 → Option D_api_At) (r2 : noonmarkref04_Days_t2 → Option D_api_At) (z : noonmarkref04_Days_t2) : Option D_api_At := noonmarkref04_Days_p2 n k0 r2 z
theorem noonmarkref04_Days_e2 (n : Nat) (k0 : St → Option D_api_At) (r2 : St → Option D_api_At) (rc : Code → An → St → (Ex → St → Option D_api_At) → Option D_api_At) (z : noonmarkref04_Days_t2) : codeR rc Try.prog noonmarkref04_Days_sp n (cl (cl (cr (cl (cr (cr (cr (bodyOf Try.f60)))))))) noonmarkref04_Days_an.right.right.right.left.right.left.left (noonmarkref04_Days_m2 z) (kSeq r2 noonmarkref04_Days_an.right.right.right.left.right.left (kBlk 0 (kSeq k0 noonmarkref04_Days_an.right.right.right (kFin Try.prog noonmarkref04_Days_rs Try.f60)))) = noonmarkref04_Days_p2 n (fun y => k0 (noonmarkref04_Days_m0 y)) (fun y => r2 (noonmarkref04_Days_m2 y)) z := by kernel_rfl
theorem noonmarkref04_Days_q2 (n : Nat) (k0 : St → Option D_api_At) (r2 : St → Option D_api_At) (z : noonmarkref04_Days_t2) : codeK Try.prog noonmarkref04_Days_sp n (cl (cl (cr (cl (cr (cr (cr (bodyOf Try.f60)))))))) noonmarkref04_Days_an.right.right.right.left.right.left.left (noonmarkref04_Days_m2 z) (kSeq r2 noonmarkref04_Days_an.right.right.right.left.right.left (kBlk 0 (kSeq k0 noonmarkref04_Days_an.right.right.right (kFin Try.prog noonmarkref04_Days_rs Try.f60)))) = noonmarkref04_Days_s2 n (fun y => k0 (noonmarkref04_Days_m0 y)) (fun y => r2 (noonmarkref04_Days_m2 y)) z := by
  rw [codeK_R, noonmarkref04_Days_e2]
  rfl
def noonmarkref04_Days_s1 (n : Nat) (k0 : noonmarkref04_Days_t0 → Option D_api_At) (z : noonmarkref04_Days_t1) : Option D_api_At :=
  rounds (fun r2 x' => noonmarkref04_Days_s2 n k0 r2 x') n (z.1, z.2.1, z.2.2.1, z.2.2.2.1, z.2.2.2.2)
theorem noonmarkref04_Days_q1 (n : Nat) (k0 : St → Option D_api_At) (z : noonmarkref04_Days_t1) : codeK Try.prog noonmarkref04_Days_sp n (cr (cl (cr (cr (cr (bodyOf Try.f60)))))) noonmarkref04_Days_an.right.right.right.left.right (noonmarkref04_Days_m1 z) (kSeq k0 noonmarkref04_Days_an.right.right.right (kFin Try.prog noonmarkref04_Days_rs Try.f60)) = noonmarkref04_Days_s1 n (fun y => k0 (noonmarkref04_Days_m0 y)) z :=
  Eq.trans (b := rounds (fun r2 st => codeK Try.prog noonmarkref04_Days_sp n (cl (cl (cr (cl (cr (cr (cr (bodyOf Try.f60)))))))) noonmarkref04_Days_an.right.right.right.left.right.left.left st (kSeq r2 noonmarkref04_Days_an.right.right.right.left.right.left (kBlk 0 (kSeq k0 noonmarkref04_Days_an.right.right.right (kFin Try.prog noonmarkref04_Days_rs Try.f60))))) n (noonmarkref04_Days_m2 (z.1, z.2.1, z.2.2.1, z.2.2.2.1, z.2.2.2.2))) (by kernel_rfl) (rounds_mk noonmarkref04_Days_m2 (fun r2 x' => by
    have := (noonmarkref04_Days_q2 n k0 r2 x')
    exact this) n _)
def noonmarkref04_Days_px (n : Nat) (k0 : noonmarkref04_Days_t0 → Option D_api_At) (k1 : noonmarkref04_Days_t1 → Option D_api_At) (x : D_api_Day) : Option D_api_At :=
  ((noonmarkref04_Right n (x.1, (x.2.1, (x.2.2.1, ()))))).bind fun v1 =>
  bif (!v1.1) then
    some ((0 : Int), ((6 : Int), ()))
  else
    ((noonmarkref04_year n (x.1, ()))).bind fun v2 =>
    k1 (x.1, x.2.1, x.2.2.1, v2.1, (1 : Int))
def noonmarkref04_Days (n : Nat) (x : D_api_Day) : Option D_api_At := noonmarkref04_Days_px n (noonmarkref04_Days_s0 n) (noonmarkref04_Days_s1 n (noonmarkref04_Days_s0 n)) x
theorem noonmarkref04_Days_ex (n : Nat) (rc : Code → An → St → (Ex → St → Option D_api_At) → Option D_api_At) (x : D_api_Day) : codeR rc Try.prog noonmarkref04_Days_sp n (bodyOf Try.f60) noonmarkref04_Days_an (start noonmarkref04_Days_ps x (Func.ntmps Try.f60)) (kFin Try.prog noonmarkref04_Days_rs Try.f60) = noonmarkref04_Days_px n (fun y => rc (cr (cr (cr (cr (bodyOf Try.f60))))) noonmarkref04_Days_an.right.right.right.right (noonmarkref04_Days_m0 y) (kFin Try.prog noonmarkref04_Days_rs Try.f60)) (fun y => rc (cr (cl (cr (cr (cr (bodyOf Try.f60)))))) noonmarkref04_Days_an.right.right.right.left.right (noonmarkref04_Days_m1 y) (kSeq (fun st => rc (cr (cr (cr (cr (bodyOf Try.f60))))) noonmarkref04_Days_an.right.right.right.right st (kFin Try.prog noonmarkref04_Days_rs Try.f60)) noonmarkref04_Days_an.right.right.right (kFin Try.prog noonmarkref04_Days_rs Try.f60))) x := by kernel_rfl
theorem noonmarkref04_Days_qx (n : Nat) (x : D_api_Day) : codeK Try.prog noonmarkref04_Days_sp n (bodyOf Try.f60) noonmarkref04_Days_an (start noonmarkref04_Days_ps x (Func.ntmps Try.f60)) (kFin Try.prog noonmarkref04_Days_rs Try.f60) = noonmarkref04_Days n x := by
  have h0 : (fun y => codeK Try.prog noonmarkref04_Days_sp n (cr (cr (cr (cr (bodyOf Try.f60))))) noonmarkref04_Days_an.right.right.right.right (noonmarkref04_Days_m0 y) (kFin Try.prog noonmarkref04_Days_rs Try.f60)) = (noonmarkref04_Days_s0 n) := funext fun y => by
    have := noonmarkref04_Days_q0 n  y
    exact this
  have h1 : (fun y => codeK Try.prog noonmarkref04_Days_sp n (cr (cl (cr (cr (cr (bodyOf Try.f60)))))) noonmarkref04_Days_an.right.right.right.left.right (noonmarkref04_Days_m1 y) (kSeq (fun st => codeK Try.prog noonmarkref04_Days_sp n (cr (cr (cr (cr (bodyOf Try.f60))))) noonmarkref04_Days_an.right.right.right.right st (kFin Try.prog noonmarkref04_Days_rs Try.f60)) noonmarkref04_Days_an.right.right.right (kFin Try.prog noonmarkref04_Days_rs Try.f60))) = (noonmarkref04_Days_s1 n (noonmarkref04_Days_s0 n)) := funext fun y => by
    have := noonmarkref04_Days_q1 n (fun st => codeK Try.prog noonmarkref04_Days_sp n (cr (cr (cr (cr (bodyOf Try.f60))))) noonmarkref04_Days_an.right.right.right.right st (kFin Try.prog noonmarkref04_Days_rs Try.f60)) y
    rw [h0] at this; exact this
  rw [codeK_R, noonmarkref04_Days_ex]
  rw [h0]
  rw [h1]
  rfl
def noonmarkref04_Days_spec : Sp := ⟨noonmarkref04_Days_ps, noonmarkref04_Days_rs, noonmarkref04_Days⟩
theorem noonmarkref04_Days_ok : SoundX Try.prog CX 60 (.f noonmarkref04_Days_spec) := sound_of (look_cons noonmarkref04_year_ok (look_cons noonmarkref04_Long_ok (look_cons noonmarkref04_Right_ok look_nil))) Try.func60 (by kernel_rfl) rfl noonmarkref04_Days_an noonmarkref04_Days_spec rfl rfl noonmarkref04_Days_qx

/-! ### noonmark/noonmarkref04.Week -/
abbrev noonmarkref04_Week_ps : Ty := (.pair (.int .i64) .unit)
abbrev noonmarkref04_Week_rs : Ty := (.pair (.int .i64) .unit)
def noonmarkref04_Week_sp : Specs := look []
def noonmarkref04_Week_an : An := .o
def noonmarkref04_Week_px (_n : Nat) (x : (Int × Unit)) : Option (Int × Unit) :=
  some ((Int.tmod (w64 ((Int.tmod x.1 (7 : Int)) + 11)) (7 : Int)), ())
def noonmarkref04_Week (n : Nat) (x : (Int × Unit)) : Option (Int × Unit) := noonmarkref04_Week_px n x
theorem noonmarkref04_Week_ex (n : Nat) (rc : Code → An → St → (Ex → St → Option (Int × Unit)) → Option (Int × Unit)) (x : (Int × Unit)) : codeR rc Try.prog noonmarkref04_Week_sp n (bodyOf Try.f61) noonmarkref04_Week_an (start noonmarkref04_Week_ps x (Func.ntmps Try.f61)) (kFin Try.prog noonmarkref04_Week_rs Try.f61) = noonmarkref04_Week_px n x := by kernel_rfl
theorem noonmarkref04_Week_qx (n : Nat) (x : (Int × Unit)) : codeK Try.prog noonmarkref04_Week_sp n (bodyOf Try.f61) noonmarkref04_Week_an (start noonmarkref04_Week_ps x (Func.ntmps Try.f61)) (kFin Try.prog noonmarkref04_Week_rs Try.f61) = noonmarkref04_Week n x := by
  rw [codeK_R, noonmarkref04_Week_ex]
  rfl
def noonmarkref04_Week_spec : Sp := ⟨noonmarkref04_Week_ps, noonmarkref04_Week_rs, noonmarkref04_Week⟩
theorem noonmarkref04_Week_ok : SoundX Try.prog CX 61 (.f noonmarkref04_Week_spec) := sound_of look_nil Try.func61 (by kernel_rfl) rfl noonmarkref04_Week_an noonmarkref04_Week_spec rfl rfl noonmarkref04_Week_qx

/-! ### noonmark/noonmarkref06.Of -/
abbrev noonmarkref06_Of_ps : Ty := (.pair T_api_Day T_api_At)
abbrev noonmarkref06_Of_rs : Ty := T_api_At
def noonmarkref06_Of_sp : Specs := look [(42, .f noonmarkref04_Long_spec), (58, .f noonmarkref06_Right_spec), (59, .f noonmarkref04_Right_spec), (60, .f noonmarkref04_Days_spec), (61, .f noonmarkref04_Week_spec)]
def noonmarkref06_Of_an : An := (.s .o (.s .o (.s .o (.s .o (.s .o (.k [] [1,2,3,9] 1 .o (.s .o (.s .o (.k [] [10] 0 (.k [] [3,10,12] 1 .o (.b (.l [] [3,10,12] 1 (.s .o (.k [] [3,10,12] 1 .o .o))))) .o)))))))))
abbrev noonmarkref06_Of_t0 := Int × Int × Int × D_api_Day
def noonmarkref06_Of_m0 (z : noonmarkref06_Of_t0) : St := ⟨[.junk, .v ⟨(.int .i64), z.1⟩, .v ⟨(.int .i64), z.2.1⟩, .v ⟨(.ptr 0 0 T_api_Day), ()⟩, .junk, .junk, .junk, .junk, .junk, .v ⟨(.int .i64), z.2.2.1⟩, .junk, .junk, .junk, .junk, .junk, .junk, .junk, .junk, .junk, .junk, .junk, .junk, .junk, .junk, .junk, .junk, .junk, .junk, .junk, .junk, .junk, .junk, .junk, .junk, .junk, .junk, .junk, .junk, .junk, .junk, .junk, .junk, .junk, .junk, .junk, .junk, .junk, .junk, .junk, .junk, .junk, .junk, .junk, .junk, .junk, .junk, .junk, .junk, .junk, .junk, .junk, .junk, .junk, .junk, .junk], [some (.one ⟨T_api_Day, z.2.2.2⟩)]⟩
abbrev noonmarkref06_Of_t1 := Int
def noonmarkref06_Of_m1 (z : noonmarkref06_Of_t1) : St := ⟨[.junk, .junk, .junk, .junk, .junk, .junk, .junk, .junk, .junk, .junk, .v ⟨(.int .i64), z⟩, .junk, .junk, .junk, .junk, .junk, .junk, .junk, .junk, .junk, .junk, .junk, .junk, .junk, .junk, .junk, .junk, .junk, .junk, .junk, .junk, .junk, .junk, .junk, .junk, .junk, .junk, .junk, .junk, .junk, .junk, .junk, .junk, .junk, .junk, .junk, .junk, .junk, .junk, .junk, .junk, .junk, .junk, .junk, .junk, .junk, .junk, .junk, .junk, .junk, .junk, .junk, .junk, .junk, .junk], []⟩
abbrev noonmarkref06_Of_t2 := Int × Int × D_api_Day
def noonmarkref06_Of_m2 (z : noonmarkref06_Of_t2) : St := ⟨[.junk, .junk, .junk, .v ⟨(.ptr 0 0 T_api_Day), ()⟩, .junk, .junk, .junk, .junk, .junk, .junk, .v ⟨(.int .i64), z.1⟩, .junk, .v ⟨(.int .i64), z.2.1⟩, .junk, .junk, .junk, .junk, .junk, .junk, .junk, .junk, .junk, .junk, .junk, .junk, .junk, .junk, .junk, .junk, .junk, .junk, .junk, .junk, .junk, .junk, .junk, .junk, .junk, .junk, .junk, .junk, .junk, .junk, .junk, .junk, .junk, .junk, .junk, .junk, .junk, .junk, .junk, .junk, .junk, .junk, .junk, .junk, .junk, .junk, .junk, .junk, .junk, .junk, .junk, .junk], [some (.one ⟨T_api_Day, z.2.2⟩)]⟩
abbrev noonmarkref06_Of_t3 := Int × Int × D_api_Day
def noonmarkref06_Of_m3 (z : noonmarkref06_Of_t3) : St := ⟨[.junk, .junk, .junk, .v ⟨(.ptr 0 0 T_api_Day), ()⟩, .junk, .junk, .junk, .junk, .junk, .junk, .v ⟨(.int .i64), z.1⟩, .junk, .v ⟨(.int .i64), z.2.1⟩, .junk, .junk, .junk, .junk, .junk, .junk, .junk, .junk, .junk, .junk, .junk, .junk, .junk, .junk, .junk, .junk, .junk, .junk, .junk, .junk, .junk, .junk, .junk, .junk, .junk, .junk, .junk, .junk, .junk, .junk, .junk, .junk, .junk, .junk, .junk, .junk, .junk, .junk, .junk, .junk, .junk, .junk, .junk, .junk, .junk, .junk, .junk, .junk, .junk, .junk, .junk, .junk], [some (.one ⟨T_api_Day, z.2.2⟩)]⟩
abbrev noonmarkref06_Of_t4 := Int × Int × D_api_Day
def noonmarkref06_Of_m4 (z : noonmarkref06_Of_t4) : St := ⟨[.junk, .junk, .junk, .v ⟨(.ptr 0 0 T_api_Day), ()⟩, .junk, .junk, .junk, .junk, .junk, .junk, .v ⟨(.int .i64), z.1⟩, .junk, .v ⟨(.int .i64), z.2.1⟩, .junk, .junk, .junk, .junk, .junk, .junk, .junk, .junk, .junk, .junk, .junk, .junk, .junk, .junk, .junk, .junk, .junk, .junk, .junk, .junk, .junk, .junk, .junk, .junk, .junk, .junk, .junk, .junk, .junk, .junk, .junk, .junk, .junk, .junk, .junk, .junk, .junk, .junk, .junk, .junk, .junk, .junk, .junk, .junk, .junk, .junk, .junk, .junk, .junk, .junk, .junk, .junk], [some (.one ⟨T_api_Day, z.2.2⟩)]⟩
def noonmarkref06_Of_p1 (_n : Nat) (z : noonmarkref06_Of_t1) : Option D_api_At :=
  some (z, ((0 : Int), ()))
def noonmarkref06_Of_s1 (n : Nat) (z : noonmarkref06_Of_t1) : Option D_api_At := noonmarkref06_Of_p1 n z
theorem noonmarkref06_Of_e1 (n : Nat) (rc : Code → An → St → (Ex → St → Option D_api_At) → Option D_api_At) (z : noonmarkref06_Of_t1) : codeR rc Try.prog noonmarkref06_Of_sp n (cr (cr (cr (cr (cr (cr (cr (cr (cr (bodyOf Try.f40)))))))))) noonmarkref06_Of_an.right.right.right.right.right.right.right.right.right (noonmarkref06_Of_m1 z) (kFin Try.prog noonmarkref06_Of_rs Try.f40) = noonmarkref06_Of_p1 n z := by kernel_rfl
theorem noonmarkref06_Of_q1 (n : Nat) (z : noonmarkref06_Of_t1) : codeK Try.prog noonmarkref06_Of_sp n (cr (cr (cr (cr (cr (cr (cr (cr (cr (bodyOf Try.f40)))))))))) noonmarkref06_Of_an.right.right.right.right.right.right.right.right.right (noonmarkref06_Of_m1 z) (kFin Try.prog noonmarkref06_Of_rs Try.f40) = noonmarkref06_Of_s1 n z := by
  rw [codeK_R, noonmarkref06_Of_e1]
  rfl
def noonmarkref06_Of_p4 (_n : Nat) (_k1 : noonmarkref06_Of_t1 → Option D_api_At) (r3 : noonmarkref06_Of_t3 → Option D_api_At) (z : noonmarkref06_Of_t4) : Option D_api_At :=
  r3 (z.1, (w64 (z.2.1 + 1)), z.2.2)
def noonmarkref06_Of_s4 (n : Nat) (k1 : noonmarkref06_Of_t1 → Option D_api_At) (r3 : noonmarkref06_Of_t3 → Option D_api_At) (z : noonmarkref06_Of_t4) : Option D_api_At := noonmarkref06_Of_p4 n k1 r3 z
theorem noonmarkref06_Of_e4 (n : Nat) (k1 : St → Option D_api_At) (r3 : St → Option D_api_At) (rc : Code → An → St → (Ex → St → Option D_api_At) → Option D_api_At) (z : noonmarkref06_Of_t4) : codeR rc Try.prog noonmarkref06_Of_sp n (cr (cr (cl (cl (cr (cl (cr (cr (cr (cr (cr (cr (cr (cr (bodyOf Try.f40))))))))))))))) noonmarkref06_Of_an.right.right.right.right.right.right.right.right.left.right.left.left.right.right (noonmarkref06_Of_m4 z) (kSeq r3 noonmarkref06_Of_an.right.right.right.right.right.right.right.right.left.right.left (kBlk 0 (kSeq k1 noonmarkref06_Of_an.right.right.right.right.right.right.right.right (kFin Try.prog noonmarkref06_Of_rs Try.f40)))) = noonmarkref06_Of_p4 n (fun y => k1 (noonmarkref06_Of_m1 y)) (fun y => r3 (noonmarkref06_Of_m3 y)) z := by kernel_rfl
theorem noonmarkref06_Of_q4 (n : Nat) (k1 : St → Option D_api_At) (r3 : St → Option D_api_At) (z : noonmarkref06_Of_t4) : codeK Try.prog noonmarkref06_Of_sp n (cr (cr (cl (cl (cr (cl (cr (cr (cr (cr (cr (cr (cr (cr (bodyOf Try.f40))))))))))))))) noonmarkref06_Of_an.right.right.right.right.right.right.right.right.left.right.left.left.right.right (noonmarkref06_Of_m4 z) (kSeq r3 noonmarkref06_Of_an.right.right.right.right.right.right.right.right.left.right.left (kBlk 0 (kSeq k1 noonmarkref06_Of_an.right.right.right.right.right.right.right.right (kFin Try.prog noonmarkref06_Of_rs Try.f40)))) = noonmarkref06_Of_s4 n (fun y => k1 (noonmarkref06_Of_m1 y)) (fun y => r3 (noonmarkref06_Of_m3 y)) z := by
  rw [codeK_R, noonmarkref06_Of_e4]
  rfl
def noonmarkref06_Of_p3 (n : Nat) (k1 : noonmarkref06_Of_t1 → Option D_api_At) (_r3 : noonmarkref06_Of_t3 → Option D_api_At) (k4 : noonmarkref06_Of_t4 → Option D_api_At) (z : noonmarkref06_Of_t3) : Option D_api_At :=
  bif (decide (z.2.1 < 7)) then
    ((noonmarkref04_Week n (z.1, ()))).bind fun v5 =>
    bif (v5.1 != z.2.2.2.2.1) then
      bif (z.2.2.1 == 2) then
        k4 ((w64 (z.1 + 1)), z.2.1, z.2.2)
      else
        k4 ((w64 (z.1 - 1)), z.2.1, z.2.2)
    else
      k1 z.1
  else
    k1 z.1
def noonmarkref06_Of_s3 (n : Nat) (k1 : noonmarkref06_Of_t1 → Option D_api_At) (r3 : noonmarkref06_Of_t3 → Option D_api_At) (z : noonmarkref06_Of_t3) : Option D_api_At := noonmarkref06_Of_p3 n k1 r3 (noonmarkref06_Of_s4 n k1 r3) z
theorem noonmarkref06_Of_e3 (n : Nat) (k1 : St → Option D_api_At) (r3 : St → Option D_api_At) (rc : Code → An → St → (Ex → St → Option D_api_At) → Option D_api_At) (z : noonmarkref06_Of_t3) : codeR rc Try.prog noonmarkref06_Of_sp n (cl (cl (cr (cl (cr (cr (cr (cr (cr (cr (cr (cr (bodyOf Try.f40))))))))))))) noonmarkref06_Of_an.right.right.right.right.right.right.right.right.left.right.left.left (noonmarkref06_Of_m3 z) (kSeq r3 noonmarkref06_Of_an.right.right.right.right.right.right.right.right.left.right.left (kBlk 0 (kSeq k1 noonmarkref06_Of_an.right.right.right.right.right.right.right.right (kFin Try.prog noonmarkref06_Of_rs Try.f40)))) = noonmarkref06_Of_p3 n (fun y => k1 (noonmarkref06_Of_m1 y)) (fun y => r3 (noonmarkref06_Of_m3 y)) (fun y => rc (cr (cr (cl (cl (cr (cl (cr (cr (cr (cr (cr (cr (cr (cr (bodyOf Try.f40))))))))))))))) noonmarkref06_Of_an.right.right.right.right.right.right.right.right.left.right.left.left.right.right (noonmarkref06_Of_m4 y) (kSeq r3 noonmarkref06_Of_an.right.right.right.right.right.right.right.right.left.right.left (kBlk 0 (kSeq k1 noonmarkref06_Of_an.right.right.right.right.right.right.right.right (kFin Try.prog noonmarkref06_Of_rs Try.f40))))) z := by kernel_rfl
theorem noonmarkref06_Of_q3 (n : Nat) (k1 : St → Option D_api_At) (r3 : St → Option D_api_At) (z : noonmarkref06_Of_t3) : codeK Try.prog noonmarkref06_Of_sp n (cl (cl (cr (cl (cr (cr (cr (cr (cr (cr (cr (cr (bodyOf Try.f40))))))))))))) noonmarkref06_Of_an.right.right.right.right.right.right.right.right.left.right.left.left (noonmarkref06_Of_m3 z) (kSeq r3 noonmarkref06_Of_an.right.right.right.right.right.right.right.right.left.right.left (kBlk 0 (kSeq k1 noonmarkref06_Of_an.right.right.right.right.right.right.right.right (kFin Try.prog noonmarkref06_Of_rs Try.f40)))) = noonmarkref06_Of_s3 n (fun y => k1 (noonmarkref06_Of_m1 y)) (fun y => r3 (noonmarkref06_Of_m3 y)) z := by
  have h4 : (fun y => codeK Try.prog noonmarkref06_Of_sp n (cr (cr (cl (cl (cr (cl (cr (cr (cr (cr (cr (cr (cr (cr (bodyOf Try.f40))))))))))))))) noonmarkref06_Of_an.right.right.right.right.right.right.right.right.left.right.left.left.right.right (noonmarkref06_Of_m4 y) (kSeq r3 noonmarkref06_Of_an.right.right.right.right.right.right.right.right.left.right.left (kBlk 0 (kSeq k1 noonmarkref06_Of_an.right.right.right.right.right.right.right.right (kFin Try.prog noonmarkref06_Of_rs Try.f40))))) = (noonmarkref06_Of_s4 n (fun y => k1 (noonmarkref06_Of_m1 y)) (fun y => r3 (noonmarkref06_Of_m3 y))) := funext fun y => by
    have := noonmarkref06_Of_q4 n k1 r3 y
    exact this
  rw [codeK_R, noonmarkref06_Of_e3]
  rw [h4]
  rfl
def noonmarkref06_Of_s2 (n : Nat) (k1 : noonmarkref06_Of_t1 → Option D_api_At) (z : noonmarkref06_Of_t2) : Option D_api_At :=
  rounds (fun r3 x' => noonmarkref06_Of_s3 n k1 r3 x') n (z.1, z.2.1, z.2.2)
theorem noonmarkref06_Of_q2 (n : Nat) (k1 : St → Option D_api_At) (z : noonmarkref06_Of_t2) : codeK Try.prog noonmarkref06_Of_sp n (cr (cl (cr (cr (cr (cr (cr (cr (cr (cr (bodyOf Try.f40))))))))))) noonmarkref06_Of_an.right.right.right.right.right.right.right.right.left.right (noonmarkref06_Of_m2 z) (kSeq k1 noonmarkref06_Of_an.right.right.right.right.right.right.right.right (kFin Try.prog noonmarkref06_Of_rs Try.f40)) = noonmarkref06_Of_s2 n (fun y => k1 (noonmarkref06_Of_m1 y)) z :=
  Eq.trans (b := rounds (fun r3 st => codeK Try.prog noonmarkref06_Of_sp n (cl (cl (cr (cl (cr (cr (cr (cr (cr (cr (cr (cr (bodyOf Try.f40))))))))))))) noonmarkref06_Of_an.right.right.right.right.right.right.right.right.left.right.left.left st (kSeq r3 noonmarkref06_Of_an.right.right.right.right.right.right.right.right.left.right.left (kBlk 0 (kSeq k1 noonmarkref06_Of_an.right.right.right.right.right.right.right.right (kFin Try.prog noonmarkref06_Of_rs Try.f40))))) n (noonmarkref06_Of_m3 (z.1, z.2.1, z.2.2))) (by kernel_rfl) (rounds_mk noonmarkref06_Of_m3 (fun r3 x' => by
    have := (noonmarkref06_Of_q3 n k1 r3 x')
    exact this) n _)
def noonmarkref06_Of_p0 (n : Nat) (k1 : noonmarkref06_Of_t1 → Option D_api_At) (k2 : noonmarkref06_Of_t2 → Option D_api_At) (z : noonmarkref06_Of_t0) : Option D_api_At :=
  ((noonmarkref04_Days n (z.1, (z.2.1, (z.2.2.1, ()))))).bind fun v4 =>
  bif (z.2.2.2.1 == 0) then
    some (v4.1, ((0 : Int), ()))
  else
    k2 (v4.1, (0 : Int), z.2.2.2)
def noonmarkref06_Of_s0 (n : Nat) (z : noonmarkref06_Of_t0) : Option D_api_At := noonmarkref06_Of_p0 n (noonmarkref06_Of_s1 n) (noonmarkref06_Of_s2 n (noonmarkref06_Of_s1 n)) z
theorem noonmarkref06_Of_e0 (n : Nat) (rc : Code → An → St → (Ex → St → Option D_api_At) → Option D_api_At) (z : noonmarkref06_Of_t0) : codeR rc Try.prog noonmarkref06_Of_sp n (cr (cr (cr (cr (cr (cr (bodyOf Try.f40))))))) noonmarkref06_Of_an.right.right.right.right.right.right (noonmarkref06_Of_m0 z) (kFin Try.prog noonmarkref06_Of_rs Try.f40) = noonmarkref06_Of_p0 n (fun y => rc (cr (cr (cr (cr (cr (cr (cr (cr (cr (bodyOf Try.f40)))))))))) noonmarkref06_Of_an.right.right.right.right.right.right.right.right.right (noonmarkref06_Of_m1 y) (kFin Try.prog noonmarkref06_Of_rs Try.f40)) (fun y => rc (cr (cl (cr (cr (cr (cr (cr (cr (cr (cr (bodyOf Try.f40))))))))))) noonmarkref06_Of_an.right.right.right.right.right.right.right.right.left.right (noonmarkref06_Of_m2 y) (kSeq (fun st => rc (cr (cr (cr (cr (cr (cr (cr (cr (cr (bodyOf Try.f40)))))))))) noonmarkref06_Of_an.right.right.right.right.right.right.right.right.right st (kFin Try.prog noonmarkref06_Of_rs Try.f40)) noonmarkref06_Of_an.right.right.right.right.right.right.right.right (kFin Try.prog noonmarkref06_Of_rs Try.f40))) z := by kernel_rfl
theorem noonmarkref06_Of_q0 (n : Nat) (z : noonmarkref06_Of_t0) : codeK Try.prog noonmarkref06_Of_sp n (cr (cr (cr (cr (cr (cr (bodyOf Try.f40))))))) noonmarkref06_Of_an.right.right.right.right.right.right (noonmarkref06_Of_m0 z) (kFin Try.prog noonmarkref06_Of_rs Try.f40) = noonmarkref06_Of_s0 n z := by
  have h1 : (fun y => codeK Try.prog noonmarkref06_Of_sp n (cr (cr (cr (cr (cr (cr (cr (cr (cr (bodyOf Try.f40)))))))))) noonmarkref06_Of_an.right.right.right.right.right.right.right.right.right (noonmarkref06_Of_m1 y) (kFin Try.prog noonmarkref06_Of_rs Try.f40)) = (noonmarkref06_Of_s1 n) := funext fun y => by
    have := noonmarkref06_Of_q1 n  y
    exact this
  have h2 : (fun y => codeK Try.prog noonmarkref06_Of_sp n (cr (cl (cr (cr (cr (cr (cr (cr (cr (cr (bodyOf Try.f40))))))))))) noonmarkref06_Of_an.right.right.right.right.right.right.right.right.left.right (noonmarkref06_Of_m2 y) (kSeq (fun st => codeK Try.prog noonmarkref06_Of_sp n (cr (cr (cr (cr (cr (cr (cr (cr (cr (bodyOf Try.f40)))))))))) noonmarkref06_Of_an.right.right.right.right.right.right.right.right.right st (kFin Try.prog noonmarkref06_Of_rs Try.f40)) noonmarkref06_Of_an.right.right.right.right.right.right.right.right (kFin Try.prog noonmarkref06_Of_rs Try.f40))) = (noonmarkref06_Of_s2 n (noonmarkref06_Of_s1 n)) := funext fun y => by
    have := noonmarkref06_Of_q2 n (fun st => codeK Try.prog noonmarkref06_Of_sp n (cr (cr (cr (cr (cr (cr (cr (cr (cr (bodyOf Try.f40)))))))))) noonmarkref06_Of_an.right.right.right.right.right.right.right.right.right st (kFin Try.prog noonmarkref06_Of_rs Try.f40)) y
    rw [h1] at this; exact this
  rw [codeK_R, noonmarkref06_Of_e0]
  rw [h1]
  rw [h2]
  rfl
def noonmarkref06_Of_px (n : Nat) (k0 : noonmarkref06_Of_t0 → Option D_api_At) (x : (D_api_Day × D_api_At)) : Option D_api_At :=
  ((noonmarkref06_Right n (x.1, ()))).bind fun v1 =>
  bif (!v1.1) then
    some ((0 : Int), ((1 : Int), ()))
  else
    ((noonmarkref04_Long n (x.2.1, (x.2.2.1, ())))).bind fun v2 =>
    ((noonmarkref04_Right n (x.2.1, (x.2.2.1, ((1 : Int), ()))))).bind fun v3 =>
    bif (!v3.1) then
      some ((0 : Int), ((6 : Int), ()))
    else
      bif (decide (x.1.2.1 > v2.1)) then
        some ((0 : Int), ((6 : Int), ()))
      else
        bif (x.1.1 == 1) then
          k0 (x.2.1, x.2.2.1, v2.1, x.1)
        else
          k0 (x.2.1, x.2.2.1, x.1.2.1, x.1)
def noonmarkref06_Of (n : Nat) (x : (D_api_Day × D_api_At)) : Option D_api_At := noonmarkref06_Of_px n (noonmarkref06_Of_s0 n) x
theorem noonmarkref06_Of_ex (n : Nat) (rc : Code → An → St → (Ex → St → Option D_api_At) → Option D_api_At) (x : (D_api_Day × D_api_At)) : codeR rc Try.prog noonmarkref06_Of_sp n (bodyOf Try.f40) noonmarkref06_Of_an (start noonmarkref06_Of_ps x (Func.ntmps Try.f40)) (kFin Try.prog noonmarkref06_Of_rs Try.f40) = noonmarkref06_Of_px n (fun y => rc (cr (cr (cr (cr (cr (cr (bodyOf Try.f40))))))) noonmarkref06_Of_an.right.right.right.right.right.right (noonmarkref06_Of_m0 y) (kFin Try.prog noonmarkref06_Of_rs Try.f40)) x := by kernel_rfl
theorem noonmarkref06_Of_qx (n : Nat) (x : (D_api_Day × D_api_At)) : codeK Try.prog noonmarkref06_Of_sp n (bodyOf Try.f40) noonmarkref06_Of_an (start noonmarkref06_Of_ps x (Func.ntmps Try.f40)) (kFin Try.prog noonmarkref06_Of_rs Try.f40) = noonmarkref06_Of n x := by
  have h0 : (fun y => codeK Try.prog noonmarkref06_Of_sp n (cr (cr (cr (cr (cr (cr (bodyOf Try.f40))))))) noonmarkref06_Of_an.right.right.right.right.right.right (noonmarkref06_Of_m0 y) (kFin Try.prog noonmarkref06_Of_rs Try.f40)) = (noonmarkref06_Of_s0 n) := funext fun y => by
    have := noonmarkref06_Of_q0 n  y
    exact this
  rw [codeK_R, noonmarkref06_Of_ex]
  rw [h0]
  rfl
def noonmarkref06_Of_spec : Sp := ⟨noonmarkref06_Of_ps, noonmarkref06_Of_rs, noonmarkref06_Of⟩
theorem noonmarkref06_Of_ok : SoundX Try.prog CX 40 (.f noonmarkref06_Of_spec) := sound_of (look_cons noonmarkref04_Long_ok (look_cons noonmarkref06_Right_ok (look_cons noonmarkref04_Right_ok (look_cons noonmarkref04_Days_ok (look_cons noonmarkref04_Week_ok look_nil))))) Try.func40 (by kernel_rfl) rfl noonmarkref06_Of_an noonmarkref06_Of_spec rfl rfl noonmarkref06_Of_qx

/-! ### noonmark/noonmarkref14.before -/
abbrev noonmarkref14_before_ps : Ty := (.pair T_expand_Fire (.pair T_expand_Fire .unit))
abbrev noonmarkref14_before_rs : Ty := (.pair .bool .unit)
def noonmarkref14_before_sp : Specs := look []
def noonmarkref14_before_an : An := .o
def noonmarkref14_before_px (_n : Nat) (x : (D_expand_Fire × (D_expand_Fire × Unit))) : Option (Bool × Unit) :=
  bif (decide (x.1.2.2.1 < x.2.1.2.2.1)) then
    some (true, ())
  else
    bif (x.1.2.2.1 == x.2.1.2.2.1) then
      some ((decide (x.1.1 < x.2.1.1)), ())
    else
      some (false, ())
def noonmarkref14_before (n : Nat) (x : (D_expand_Fire × (D_expand_Fire × Unit))) : Option (Bool × Unit) := noonmarkref14_before_px n x
theorem noonmarkref14_before_ex (n : Nat) (rc : Code → An → St → (Ex → St → Option (Bool × Unit)) → Option (Bool × Unit)) (x : (D_expand_Fire × (D_expand_Fire × Unit))) : codeR rc Try.prog noonmarkref14_before_sp n (bodyOf Try.f65) noonmarkref14_before_an (start noonmarkref14_before_ps x (Func.ntmps Try.f65)) (kFin Try.prog noonmarkref14_before_rs Try.f65) = noonmarkref14_before_px n x := by kernel_rfl
theorem noonmarkref14_before_qx (n : Nat) (x : (D_expand_Fire × (D_expand_Fire × Unit))) : codeK Try.prog noonmarkref14_before_sp n (bodyOf Try.f65) noonmarkref14_before_an (start noonmarkref14_before_ps x (Func.ntmps Try.f65)) (kFin Try.prog noonmarkref14_before_rs Try.f65) = noonmarkref14_before n x := by
  rw [codeK_R, noonmarkref14_before_ex]
  rfl
def noonmarkref14_before_spec : Sp := ⟨noonmarkref14_before_ps, noonmarkref14_before_rs, noonmarkref14_before⟩
theorem noonmarkref14_before_ok : SoundX Try.prog CX 65 (.f noonmarkref14_before_spec) := sound_of look_nil Try.func65 (by kernel_rfl) rfl noonmarkref14_before_an noonmarkref14_before_spec rfl rfl noonmarkref14_before_qx

/-! ### noonmark/noonmarkref14.year -/
abbrev noonmarkref14_year_ps : Ty := (.pair (.list T_api_Rule) (.pair (.int .i64) .unit))
abbrev noonmarkref14_year_rs : Ty := (.pair (.list T_expand_Fire) .unit)
abbrev noonmarkref14_year_rr : Ty := .unit
def noonmarkref14_year_sp : Specs := look [(40, .f noonmarkref06_Of_spec), (65, .f noonmarkref14_before_spec)]
def noonmarkref14_year_an : An := (.s .o (.s .o (.k [] [5] 1 (.k [] [0,1,5,6] 0 .o (.b (.l [(5, (.sl 0 T_expand_Fire), 90)] [0,1,5,6] 1 (.s .o (.k [(5, (.sl 0 T_expand_Fire), 90)] [0,1,5,6] 1 (.b (.k [] [0,1,5,6] 1 (.k [] [0,1,5,6,40] 1 .o .o) (.s .o (.s .o (.s .o (.k [] [0,1,5,6,9,10] 2 .o (.k [] [0,1,5,6,9,10] 2 (.b (.l [] [0,1,5,6,9,10] 2 .o)) .o))))))) .o))))) .o)))
abbrev noonmarkref14_year_t0 := (List D_expand_Fire)
def noonmarkref14_year_m0 (z : noonmarkref14_year_t0) : St := ⟨[.junk, .junk, .junk, .junk, .junk, .v ⟨(.sl 0 T_expand_Fire), ()⟩, .junk, .junk, .junk, .junk, .junk, .junk, .junk, .junk, .junk, .junk, .junk, .junk, .junk, .junk, .junk, .junk, .junk, .junk, .junk, .junk, .junk, .junk, .junk, .junk, .junk, .junk, .junk, .junk, .junk, .junk, .junk, .junk, .junk, .junk, .junk, .junk, .junk, .junk, .junk, .junk, .junk, .junk, .junk, .junk, .junk, .junk, .junk, .junk, .junk, .junk, .junk, .junk, .junk, .junk, .junk, .junk, .junk, .junk, .junk, .junk, .junk, .junk, .junk, .junk, .junk, .junk, .junk, .junk, .junk, .junk, .junk, .junk, .junk, .junk, .junk, .junk, .junk, .junk, .junk, .junk, .junk, .junk, .junk, .junk, .junk, .junk, .junk, .junk, .junk, .junk, .junk], [some (.arr 90 T_expand_Fire z)]⟩
abbrev noonmarkref14_year_t1 := (List D_api_Rule) × Int × Int
def noonmarkref14_year_m1 (z : noonmarkref14_year_t1) : St := ⟨[.v ⟨(.list T_api_Rule), z.1⟩, .v ⟨(.int .i64), z.2.1⟩, .junk, .junk, .junk, .v ⟨(.nl T_expand_Fire), ()⟩, .v ⟨(.int .i64), z.2.2⟩, .junk, .junk, .junk, .junk, .junk, .junk, .junk, .junk, .junk, .junk, .junk, .junk, .junk, .junk, .junk, .junk, .junk, .junk, .junk, .junk, .junk, .junk, .junk, .junk, .junk, .junk, .junk, .junk, .junk, .junk, .junk, .junk, .junk, .junk, .junk, .junk, .junk, .junk, .junk, .junk, .junk, .junk, .junk, .junk, .junk, .junk, .junk, .junk, .junk, .junk, .junk, .junk, .junk, .junk, .junk, .junk, .junk, .junk, .junk, .junk, .junk, .junk, .junk, .junk, .junk, .junk, .junk, .junk, .junk, .junk, .junk, .junk, .junk, .junk, .junk, .junk, .junk, .junk, .junk, .junk, .junk, .junk, .junk, .junk, .junk, .junk, .junk, .junk, .junk, .junk], []⟩
abbrev noonmarkref14_year_t2 := (List D_api_Rule) × Int × Int × (List D_expand_Fire)
def noonmarkref14_year_m2 (z : noonmarkref14_year_t2) : St := ⟨[.v ⟨(.list T_api_Rule), z.1⟩, .v ⟨(.int .i64), z.2.1⟩, .junk, .junk, .junk, .v ⟨(.sl 0 T_expand_Fire), ()⟩, .v ⟨(.int .i64), z.2.2.1⟩, .junk, .junk, .junk, .junk, .junk, .junk, .junk, .junk, .junk, .junk, .junk, .junk, .junk, .junk, .junk, .junk, .junk, .junk, .junk, .junk, .junk, .junk, .junk, .junk, .junk, .junk, .junk, .junk, .junk, .junk, .junk, .junk, .junk, .junk, .junk, .junk, .junk, .junk, .junk, .junk, .junk, .junk, .junk, .junk, .junk, .junk, .junk, .junk, .junk, .junk, .junk, .junk, .junk, .junk, .junk, .junk, .junk, .junk, .junk, .junk, .junk, .junk, .junk, .junk, .junk, .junk, .junk, .junk, .junk, .junk, .junk, .junk, .junk, .junk, .junk, .junk, .junk, .junk, .junk, .junk, .junk, .junk, .junk, .junk, .junk, .junk, .junk, .junk, .junk, .junk], [some (.arr 90 T_expand_Fire z.2.2.2)]⟩
abbrev noonmarkref14_year_t3 := (List D_api_Rule) × Int × Int × (List D_expand_Fire)
def noonmarkref14_year_m3 (z : noonmarkref14_year_t3) : St := ⟨[.v ⟨(.list T_api_Rule), z.1⟩, .v ⟨(.int .i64), z.2.1⟩, .junk, .junk, .junk, .v ⟨(.sl 0 T_expand_Fire), ()⟩, .v ⟨(.int .i64), z.2.2.1⟩, .junk, .junk, .junk, .junk, .junk, .junk, .junk, .junk, .junk, .junk, .junk, .junk, .junk, .junk, .junk, .junk, .junk, .junk, .junk, .junk, .junk, .junk, .junk, .junk, .junk, .junk, .junk, .junk, .junk, .junk, .junk, .junk, .junk, .junk, .junk, .junk, .junk, .junk, .junk, .junk, .junk, .junk, .junk, .junk, .junk, .junk, .junk, .junk, .junk, .junk, .junk, .junk, .junk, .junk, .junk, .junk, .junk, .junk, .junk, .junk, .junk, .junk, .junk, .junk, .junk, .junk, .junk, .junk, .junk, .junk, .junk, .junk, .junk, .junk, .junk, .junk, .junk, .junk, .junk, .junk, .junk, .junk, .junk, .junk, .junk, .junk, .junk, .junk, .junk, .junk], [some (.arr 90 T_expand_Fire z.2.2.2)]⟩
abbrev noonmarkref14_year_t4 := (List D_api_Rule) × Int × Int × (List D_expand_Fire)
def noonmarkref14_year_m4 (z : noonmarkref14_year_t4) : St := ⟨[.v ⟨(.list T_api_Rule), z.1⟩, .v ⟨(.int .i64), z.2.1⟩, .junk, .junk, .junk, .v ⟨(.sl 0 T_expand_Fire), ()⟩, .v ⟨(.int .i64), z.2.2.1⟩, .junk, .junk, .junk, .junk, .junk, .junk, .junk, .junk, .junk, .junk, .junk, .junk, .junk, .junk, .junk, .junk, .junk, .junk, .junk, .junk, .junk, .junk, .junk, .junk, .junk, .junk, .junk, .junk, .junk, .junk, .junk, .junk, .junk, .junk, .junk, .junk, .junk, .junk, .junk, .junk, .junk, .junk, .junk, .junk, .junk, .junk, .junk, .junk, .junk, .junk, .junk, .junk, .junk, .junk, .junk, .junk, .junk, .junk, .junk, .junk, .junk, .junk, .junk, .junk, .junk, .junk, .junk, .junk, .junk, .junk, .junk, .junk, .junk, .junk, .junk, .junk, .junk, .junk, .junk, .junk, .junk, .junk, .junk, .junk, .junk, .junk, .junk, .junk, .junk, .junk], [some (.arr 90 T_expand_Fire z.2.2.2)]⟩
abbrev noonmarkref14_year_t5 := (List D_api_Rule) × Int × Int × Bool × (List D_expand_Fire)
def noonmarkref14_year_m5 (z : noonmarkref14_year_t5) : St := ⟨[.v ⟨(.list T_api_Rule), z.1⟩, .v ⟨(.int .i64), z.2.1⟩, .junk, .junk, .junk, .v ⟨(.sl 0 T_expand_Fire), ()⟩, .v ⟨(.int .i64), z.2.2.1⟩, .junk, .junk, .junk, .junk, .junk, .junk, .junk, .junk, .junk, .junk, .junk, .junk, .junk, .junk, .junk, .junk, .junk, .junk, .junk, .junk, .junk, .junk, .junk, .junk, .junk, .junk, .junk, .junk, .junk, .junk, .junk, .junk, .junk, .v ⟨.bool, z.2.2.2.1⟩, .junk, .junk, .junk, .junk, .junk, .junk, .junk, .junk, .junk, .junk, .junk, .junk, .junk, .junk, .junk, .junk, .junk, .junk, .junk, .junk, .junk, .junk, .junk, .junk, .junk, .junk, .junk, .junk, .junk, .junk, .junk, .junk, .junk, .junk, .junk, .junk, .junk, .junk, .junk, .junk, .junk, .junk, .junk, .junk, .junk, .junk, .junk, .junk, .junk, .junk, .junk, .junk, .junk, .junk, .junk, .junk], [some (.arr 90 T_expand_Fire z.2.2.2.2)]⟩
abbrev noonmarkref14_year_t6 := (List D_api_Rule) × Int × Int × Int × (List D_expand_Fire) × D_expand_Fire
def noonmarkref14_year_m6 (z : noonmarkref14_year_t6) : St := ⟨[.v ⟨(.list T_api_Rule), z.1⟩, .v ⟨(.int .i64), z.2.1⟩, .junk, .junk, .junk, .v ⟨(.sl 0 T_expand_Fire), ()⟩, .v ⟨(.int .i64), z.2.2.1⟩, .junk, .junk, .v ⟨(.ptr 1 0 T_expand_Fire), ()⟩, .v ⟨(.int .i64), z.2.2.2.1⟩, .junk, .junk, .junk, .junk, .junk, .junk, .junk, .junk, .junk, .junk, .junk, .junk, .junk, .junk, .junk, .junk, .junk, .junk, .junk, .junk, .junk, .junk, .junk, .junk, .junk, .junk, .junk, .junk, .junk, .junk, .junk, .junk, .junk, .junk, .junk, .junk, .junk, .junk, .junk, .junk, .junk, .junk, .junk, .junk, .junk, .junk, .junk, .junk, .junk, .junk, .junk, .junk, .junk, .junk, .junk, .junk, .junk, .junk, .junk, .junk, .junk, .junk, .junk, .junk, .junk, .junk, .junk, .junk, .junk, .junk, .junk, .junk, .junk, .junk, .junk, .junk, .junk, .junk, .junk, .junk, .junk, .junk, .junk, .junk, .junk, .junk], [some (.arr 90 T_expand_Fire z.2.2.2.2.1), some (.one ⟨T_expand_Fire, z.2.2.2.2.2⟩)]⟩
abbrev noonmarkref14_year_t7 := (List D_api_Rule) × Int × Int × Int × (List D_expand_Fire) × D_expand_Fire
def noonmarkref14_year_m7 (z : noonmarkref14_year_t7) : St := ⟨[.v ⟨(.list T_api_Rule), z.1⟩, .v ⟨(.int .i64), z.2.1⟩, .junk, .junk, .junk, .v ⟨(.sl 0 T_expand_Fire), ()⟩, .v ⟨(.int .i64), z.2.2.1⟩, .junk, .junk, .v ⟨(.ptr 1 0 T_expand_Fire), ()⟩, .v ⟨(.int .i64), z.2.2.2.1⟩, .junk, .junk, .junk, .junk, .junk, .junk, .junk, .junk, .junk, .junk, .junk, .junk, .junk, .junk, .junk, .junk, .junk, .junk, .junk, .junk, .junk, .junk, .junk, .junk, .junk, .junk, .junk, .junk, .junk, .junk, .junk, .junk, .junk, .junk, .junk, .junk, .junk, .junk, .junk, .junk, .junk, .junk, .junk, .junk, .junk, .junk, .junk, .junk, .junk, .junk, .junk, .junk, .junk, .junk, .junk, .junk, .junk, .junk, .junk, .junk, .junk, .junk, .junk, .junk, .junk, .junk, .junk, .junk, .junk, .junk, .junk, .junk, .junk, .junk, .junk, .junk, .junk, .junk, .junk, .junk, .junk, .junk, .junk, .junk, .junk, .junk], [some (.arr 90 T_expand_Fire z.2.2.2.2.1), some (.one ⟨T_expand_Fire, z.2.2.2.2.2⟩)]⟩
abbrev noonmarkref14_year_t8 := (List D_api_Rule) × Int × Int × Int × (List D_expand_Fire) × D_expand_Fire
def noonmarkref14_year_m8 (z : noonmarkref14_year_t8) : St := ⟨[.v ⟨(.list T_api_Rule), z.1⟩, .v ⟨(.int .i64), z.2.1⟩, .junk, .junk, .junk, .v ⟨(.sl 0 T_expand_Fire), ()⟩, .v ⟨(.int .i64), z.2.2.1⟩, .junk, .junk, .v ⟨(.ptr 1 0 T_expand_Fire), ()⟩, .v ⟨(.int .i64), z.2.2.2.1⟩, .junk, .junk, .junk, .junk, .junk, .junk, .junk, .junk, .junk, .junk, .junk, .junk, .junk, .junk, .junk, .junk, .junk, .junk, .junk, .junk, .junk, .junk, .junk, .junk, .junk, .junk, .junk, .junk, .junk, .junk, .junk, .junk, .junk, .junk, .junk, .junk, .junk, .junk, .junk, .junk, .junk, .junk, .junk, .junk, .junk, .junk, .junk, .junk, .junk, .junk, .junk, .junk, .junk, .junk, .junk, .junk, .junk, .junk, .junk, .junk, .junk, .junk, .junk, .junk, .junk, .junk, .junk, .junk, .junk, .junk, .junk, .junk, .junk, .junk, .junk, .junk, .junk, .junk, .junk, .junk, .junk, .junk, .junk, .junk, .junk, .junk], [some (.arr 90 T_expand_Fire z.2.2.2.2.1), some (.one ⟨T_expand_Fire, z.2.2.2.2.2⟩)]⟩
def noonmarkref14_year_p0 (_n : Nat) (z : noonmarkref14_year_t0) : Option ((List D_expand_Fire) × Unit) :=
  some (z, ())
def noonmarkref14_year_s0 (n : Nat) (z : noonmarkref14_year_t0) : Option ((List D_expand_Fire) × Unit) := noonmarkref14_year_p0 n z
theorem noonmarkref14_year_e0 (n : Nat) (rc : Code → An → St → (Ex → St → Option ((List D_expand_Fire) × Unit)) → Option ((List D_expand_Fire) × Unit)) (z : noonmarkref14_year_t0) : codeR rc Try.prog noonmarkref14_year_sp n (cr (cr (cr (bodyOf Try.f64)))) noonmarkref14_year_an.right.right.right (noonmarkref14_year_m0 z) (kFinO Try.prog 90 T_expand_Fire noonmarkref14_year_rr Try.f64) = noonmarkref14_year_p0 n z := by kernel_rfl
theorem noonmarkref14_year_q0 (n : Nat) (z : noonmarkref14_year_t0) : codeK Try.prog noonmarkref14_year_sp n (cr (cr (cr (bodyOf Try.f64)))) noonmarkref14_year_an.right.right.right (noonmarkref14_year_m0 z) (kFinO Try.prog 90 T_expand_Fire noonmarkref14_year_rr Try.f64) = noonmarkref14_year_s0 n z := by
  rw [codeK_R, noonmarkref14_year_e0]
  rfl
def noonmarkref14_year_p3 (_n : Nat) (_k0 : noonmarkref14_year_t0 → Option ((List D_expand_Fire) × Unit)) (r2 : noonmarkref14_year_t2 → Option ((List D_expand_Fire) × Unit)) (z : noonmarkref14_year_t3) : Option ((List D_expand_Fire) × Unit) :=
  r2 (z.1, z.2.1, (w64 (z.2.2.1 + 1)), z.2.2.2)
def noonmarkref14_year_s3 (n : Nat) (k0 : noonmarkref14_year_t0 → Option ((List D_expand_Fire) × Unit)) (r2 : noonmarkref14_year_t2 → Option ((List D_expand_Fire) × Unit)) (z : noonmarkref14_year_t3) : Option ((List D_expand_Fire) × Unit) := noonmarkref14_year_p3 n k0 r2 z
theorem noonmarkref14_year_e3 (n : Nat) (k0 : St → Option ((List D_expand_Fire) × Unit)) (r2 : St → Option ((List D_expand_Fire) × Unit)) (rc : Code → An → St → (Ex → St → Option ((List D_expand_Fire) × Unit)) → Option ((List D_expand_Fire) × Unit)) (z : noonmarkref14_year_t3) : codeR rc Try.prog noonmarkref14_year_sp n (cr (cr (cl (cl (cr (cl (cr (cr (bodyOf Try.f64))))))))) noonmarkref14_year_an.right.right.left.right.left.left.right.right (noonmarkref14_year_m3 z) (kSeq r2 noonmarkref14_year_an.right.right.left.right.left (kBlk 0 (kSeq k0 noonmarkref14_year_an.right.right (kFinO Try.prog 90 T_expand_Fire noonmarkref14_year_rr Try.f64)))) = noonmarkref14_year_p3 n (fun y => k0 (noonmarkref14_year_m0 y)) (fun y => r2 (noonmarkref14_year_m2 y)) z := by kernel_rfl
theorem noonmarkref14_year_q3 (n : Nat) (k0 : St → Option ((List D_expand_Fire) × Unit)) (r2 : St → Option ((List D_expand_Fire) × Unit)) (z : noonmarkref14_year_t3) : codeK Try.prog noonmarkref14_year_sp n (cr (cr (cl (cl (cr (cl (cr (cr (bodyOf Try.f64))))))))) noonmarkref14_year_an.right.right.left.right.left.left.right.right (noonmarkref14_year_m3 z) (kSeq r2 noonmarkref14_year_an.right.right.left.right.left (kBlk 0 (kSeq k0 noonmarkref14_year_an.right.right (kFinO Try.prog 90 T_expand_Fire noonmarkref14_year_rr Try.f64)))) = noonmarkref14_year_s3 n (fun y => k0 (noonmarkref14_year_m0 y)) (fun y => r2 (noonmarkref14_year_m2 y)) z := by
  rw [codeK_R, noonmarkref14_year_e3]
  rfl
def noonmarkref14_year_p8 (n : Nat) (_k0 : noonmarkref14_year_t0 → Option ((List D_expand_Fire) × Unit)) (_r2 : noonmarkref14_year_t2 → Option ((List D_expand_Fire) × Unit)) (_k3 : noonmarkref14_year_t3 → Option ((List D_expand_Fire) × Unit)) (k7 : noonmarkref14_year_t7 → Option ((List D_expand_Fire) × Unit)) (r8 : noonmarkref14_year_t8 → Option ((List D_expand_Fire) × Unit)) (z : noonmarkref14_year_t8) : Option ((List D_expand_Fire) × Unit) :=
  bif (decide (z.2.2.2.1 < (List.length z.2.2.2.2.1 : Int))) then
    bif decide (0 ≤ z.2.2.2.1 ∧ z.2.2.2.1 < (List.length z.2.2.2.2.1 : Int)) then
      ((z.2.2.2.2.1[(Int.toNat z.2.2.2.1)]?)).bind fun e11 =>
      ((noonmarkref14_before n (e11, (z.2.2.2.2.2, ())))).bind fun v12 =>
      bif v12.1 then
        r8 (z.1, z.2.1, z.2.2.1, (w64 (z.2.2.2.1 + 1)), z.2.2.2.2.1, z.2.2.2.2.2)
      else
        k7 (z.1, z.2.1, z.2.2.1, z.2.2.2.1, z.2.2.2.2.1, z.2.2.2.2.2)
    else none
  else
    k7 (z.1, z.2.1, z.2.2.1, z.2.2.2.1, z.2.2.2.2.1, z.2.2.2.2.2)
def noonmarkref14_year_s8 (n : Nat) (k0 : noonmarkref14_year_t0 → Option ((List D_expand_Fire) × Unit)) (r2 : noonmarkref14_year_t2 → Option ((List D_expand_Fire) × Unit)) (k3 : noonmarkref14_year_t3 → Option ((List D_expand_Fire) × Unit)) (k7 : noonmarkref14_year_t7 → Option ((List D_expand_Fire) × Unit)) (r8 : noonmarkref14_year_t8 → Option ((List D_expand_Fire) × Unit)) (z : noonmarkref14_year_t8) : Option ((List D_expand_Fire) × Unit) := noonmarkref14_year_p8 n k0 r2 k3 k7 r8 z
theorem noonmarkref14_year_e8 (n : Nat) (k0 : St → Option ((List D_expand_Fire) × Unit)) (r2 : St → Option ((List D_expand_Fire) × Unit)) (k3 : St → Option ((List D_expand_Fire) × Unit)) (k7 : St → Option ((List D_expand_Fire) × Unit)) (r8 : St → Option ((List D_expand_Fire) × Unit)) (rc : Code → An → St → (Ex → St → Option ((List D_expand_Fire) × Unit)) → Option ((List D_expand_Fire) × Unit)) (z : noonmarkref14_year_t8) : codeR rc Try.prog noonmarkref14_year_sp n (cl (cl (cl (cr (cr (cr (cr (cr (cl (cl (cr (cl (cl (cr (cl (cr (cr (bodyOf Try.f64)))))))))))))))))) noonmarkref14_year_an.right.right.left.right.left.left.right.left.left.right.right.right.right.right.left.left.left (noonmarkref14_year_m8 z) (kSeq r8 noonmarkref14_year_an.right.right.left.right.left.left.right.left.left.right.right.right.right.right.left.left (kBlk 2 (kSeq k7 noonmarkref14_year_an.right.right.left.right.left.left.right.left.left.right.right.right.right.right (kBlk 1 (kSeq k3 noonmarkref14_year_an.right.right.left.right.left.left.right (kSeq r2 noonmarkref14_year_an.right.right.left.right.left (kBlk 0 (kSeq k0 noonmarkref14_year_an.right.right (kFinO Try.prog 90 T_expand_Fire noonmarkref14_year_rr Try.f64))))))))) = noonmarkref14_year_p8 n (fun y => k0 (noonmarkref14_year_m0 y)) (fun y => r2 (noonmarkref14_year_m2 y)) (fun y => k3 (noonmarkref14_year_m3 y)) (fun y => k7 (noonmarkref14_year_m7 y)) (fun y => r8 (noonmarkref14_year_m8 y)) z := by kernel_rfl
theorem noonmarkref14_year_q8 (n : Nat) (k0 : St → Option ((List D_expand_Fire) × Unit)) (r2 : St → Option ((List D_expand_Fire) × Unit)) (k3 : St → Option ((List D_expand_Fire) × Unit)) (k7 : St → Option ((List D_expand_Fire) × Unit)) (r8 : St → Option ((List D_expand_Fire) × Unit)) (z : noonmarkref14_year_t8) : codeK Try.prog noonmarkref14_year_sp n (cl (cl (cl (cr (cr (cr (cr (cr (cl (cl (cr (cl (cl (cr (cl (cr (cr (bodyOf Try.f64)))))))))))))))))) noonmarkref14_year_an.right.right.left.right.left.left.right.left.left.right.right.right.right.right.left.left.left (noonmarkref14_year_m8 z) (kSeq r8 noonmarkref14_year_an.right.right.left.right.left.left.right.left.left.right.right.right.right.right.left.left (kBlk 2 (kSeq k7 noonmarkref14_year_an.right.right.left.right.left.left.right.left.left.right.right.right.right.right (kBlk 1 (kSeq k3 noonmarkref14_year_an.right.right.left.right.left.left.right (kSeq r2 noonmarkref14_year_an.right.right.left.right.left (kBlk 0 (kSeq k0 noonmarkref14_year_an.right.right (kFinO Try.prog 90 T_expand_Fire noonmarkref14_year_rr Try.f64))))))))) = noonmarkref14_year_s8 n (fun y => k0 (noonmarkref14_year_m0 y)) (fun y => r2 (noonmarkref14_year_m2 y)) (fun y => k3 (noonmarkref14_year_m3 y)) (fun y => k7 (noonmarkref14_year_m7 y)) (fun y => r8 (noonmarkref14_year_m8 y)) z := by
  rw [codeK_R, noonmarkref14_year_e8]
  rfl
def noonmarkref14_year_p7 (_n : Nat) (_k0 : noonmarkref14_year_t0 → Option ((List D_expand_Fire) × Unit)) (_r2 : noonmarkref14_year_t2 → Option ((List D_expand_Fire) × Unit)) (k3 : noonmarkref14_year_t3 → Option ((List D_expand_Fire) × Unit)) (z : noonmarkref14_year_t7) : Option ((List D_expand_Fire) × Unit) :=
  bif decide (0 ≤ z.2.2.2.1 ∧ z.2.2.2.1 ≤ ((List.length z.2.2.2.2.1 : Nat) : Int)) then
    let t14 := List.drop 0 (List.take (Int.toNat z.2.2.2.1) z.2.2.2.2.1)
    bif decide ((List.length ([] : List D_expand_Fire) + List.length t14) * (32 + 1) ≤ 140737488355328) then
      let l15 := ([] : List D_expand_Fire) ++ t14
      let t16 := (z.2.2.2.2.2 :: [])
      bif decide ((List.length l15 + List.length t16) * (32 + 1) ≤ 140737488355328) then
        let l17 := l15 ++ t16
        bif decide (0 ≤ z.2.2.2.1 ∧ z.2.2.2.1 ≤ (((List.length z.2.2.2.2.1) : Nat) : Int)) then
          let t18 := List.drop (Int.toNat z.2.2.2.1) (List.take (List.length z.2.2.2.2.1) z.2.2.2.2.1)
          bif decide ((List.length l17 + List.length t18) * (32 + 1) ≤ 140737488355328) then
            k3 (z.1, z.2.1, z.2.2.1, (l17 ++ t18))
          else none
        else none
      else none
    else none
  else none
def noonmarkref14_year_s7 (n : Nat) (k0 : noonmarkref14_year_t0 → Option ((List D_expand_Fire) × Unit)) (r2 : noonmarkref14_year_t2 → Option ((List D_expand_Fire) × Unit)) (k3 : noonmarkref14_year_t3 → Option ((List D_expand_Fire) × Unit)) (z : noonmarkref14_year_t7) : Option ((List D_expand_Fire) × Unit) := noonmarkref14_year_p7 n k0 r2 k3 z
theorem noonmarkref14_year_e7 (n : Nat) (k0 : St → Option ((List D_expand_Fire) × Unit)) (r2 : St → Option ((List D_expand_Fire) × Unit)) (k3 : St → Option ((List D_expand_Fire) × Unit)) (rc : Code → An → St → (Ex → St → Option ((List D_expand_Fire) × Unit)) → Option ((List D_expand_Fire) × Unit)) (z : noonmarkref14_year_t7) : codeR rc Try.prog noonmarkref14_year_sp n (cr (cr (cr (cr (cr (cr (cl (cl (cr (cl (cl (cr (cl (cr (cr (bodyOf Try.f64)))))))))))))))) noonmarkref14_year_an.right.right.left.right.left.left.right.left.left.right.right.right.right.right.right (noonmarkref14_year_m7 z) (kBlk 1 (kSeq k3 noonmarkref14_year_an.right.right.left.right.left.left.right (kSeq r2 noonmarkref14_year_an.right.right.left.right.left (kBlk 0 (kSeq k0 noonmarkref14_year_an.right.right (kFinO Try.prog 90 T_expand_Fire noonmarkref14_year_rr Try.f64)))))) = noonmarkref14_year_p7 n (fun y => k0 (noonmarkref14_year_m0 y)) (fun y => r2 (noonmarkref14_year_m2 y)) (fun y => k3 (noonmarkref14_year_m3 y)) z := by kernel_rfl
theorem noonmarkref14_year_q7 (n : Nat) (k0 : St → Option ((List D_expand_Fire) × Unit)) (r2 : St → Option ((List D_expand_Fire) × Unit)) (k3 : St → Option ((List D_expand_Fire) × Unit)) (z : noonmarkref14_year_t7) : codeK Try.prog noonmarkref14_year_sp n (cr (cr (cr (cr (cr (cr (cl (cl (cr (cl (cl (cr (cl (cr (cr (bodyOf Try.f64)))))))))))))))) noonmarkref14_year_an.right.right.left.right.left.left.right.left.left.right.right.right.right.right.right (noonmarkref14_year_m7 z) (kBlk 1 (kSeq k3 noonmarkref14_year_an.right.right.left.right.left.left.right (kSeq r2 noonmarkref14_year_an.right.right.left.right.left (kBlk 0 (kSeq k0 noonmarkref14_year_an.right.right (kFinO Try.prog 90 T_expand_Fire noonmarkref14_year_rr Try.f64)))))) = noonmarkref14_year_s7 n (fun y => k0 (noonmarkref14_year_m0 y)) (fun y => r2 (noonmarkref14_year_m2 y)) (fun y => k3 (noonmarkref14_year_m3 y)) z := by
  rw [codeK_R, noonmarkref14_year_e7]
  rfl
def noonmarkref14_year_s6 (n : Nat) (k0 : noonmarkref14_year_t0 → Option ((List D_expand_Fire) × Unit)) (r2 : noonmarkref14_year_t2 → Option ((List D_expand_Fire) × Unit)) (k3 : noonmarkref14_year_t3 → Option ((List D_expand_Fire) × Unit)) (z : noonmarkref14_year_t6) : Option ((List D_expand_Fire) × Unit) :=
  rounds (fun r8 x' => noonmarkref14_year_s8 n k0 r2 k3 (noonmarkref14_year_s7 n k0 r2 k3) r8 x') n (z.1, z.2.1, z.2.2.1, z.2.2.2.1, z.2.2.2.2.1, z.2.2.2.2.2)
theorem noonmarkref14_year_q6 (n : Nat) (k0 : St → Option ((List D_expand_Fire) × Unit)) (r2 : St → Option ((List D_expand_Fire) × Unit)) (k3 : St → Option ((List D_expand_Fire) × Unit)) (z : noonmarkref14_year_t6) : codeK Try.prog noonmarkref14_year_sp n (cr (cr (cr (cr (cr (cl (cl (cr (cl (cl (cr (cl (cr (cr (bodyOf Try.f64))))))))))))))) noonmarkref14_year_an.right.right.left.right.left.left.right.left.left.right.right.right.right.right (noonmarkref14_year_m6 z) (kBlk 1 (kSeq k3 noonmarkref14_year_an.right.right.left.right.left.left.right (kSeq r2 noonmarkref14_year_an.right.right.left.right.left (kBlk 0 (kSeq k0 noonmarkref14_year_an.right.right (kFinO Try.prog 90 T_expand_Fire noonmarkref14_year_rr Try.f64)))))) = noonmarkref14_year_s6 n (fun y => k0 (noonmarkref14_year_m0 y)) (fun y => r2 (noonmarkref14_year_m2 y)) (fun y => k3 (noonmarkref14_year_m3 y)) z :=
  Eq.trans (b := rounds (fun r8 st => codeK Try.prog noonmarkref14_year_sp n (cl (cl (cl (cr (cr (cr (cr (cr (cl (cl (cr (cl (cl (cr (cl (cr (cr (bodyOf Try.f64)))))))))))))))))) noonmarkref14_year_an.right.right.left.right.left.left.right.left.left.right.right.right.right.right.left.left.left st (kSeq r8 noonmarkref14_year_an.right.right.left.right.left.left.right.left.left.right.right.right.right.right.left.left (kBlk 2 (kSeq (fun st => codeK Try.prog noonmarkref14_year_sp n (cr (cr (cr (cr (cr (cr (cl (cl (cr (cl (cl (cr (cl (cr (cr (bodyOf Try.f64)))))))))))))))) noonmarkref14_year_an.right.right.left.right.left.left.right.left.left.right.right.right.right.right.right st (kBlk 1 (kSeq k3 noonmarkref14_year_an.right.right.left.right.left.left.right (kSeq r2 noonmarkref14_year_an.right.right.left.right.left (kBlk 0 (kSeq k0 noonmarkref14_year_an.right.right (kFinO Try.prog 90 T_expand_Fire noonmarkref14_year_rr Try.f64))))))) noonmarkref14_year_an.right.right.left.right.left.left.right.left.left.right.right.right.right.right (kBlk 1 (kSeq k3 noonmarkref14_year_an.right.right.left.right.left.left.right (kSeq r2 noonmarkref14_year_an.right.right.left.right.left (kBlk 0 (kSeq k0 noonmarkref14_year_an.right.right (kFinO Try.prog 90 T_expand_Fire noonmarkref14_year_rr Try.f64)))))))))) n (noonmarkref14_year_m8 (z.1, z.2.1, z.2.2.1, z.2.2.2.1, z.2.2.2.2.1, z.2.2.2.2.2))) (by kernel_rfl) (rounds_mk noonmarkref14_year_m8 (fun r8 x' => by
    have h7 : (fun y => codeK Try.prog noonmarkref14_year_sp n (cr (cr (cr (cr (cr (cr (cl (cl (cr (cl (cl (cr (cl (cr (cr (bodyOf Try.f64)))))))))))))))) noonmarkref14_year_an.right.right.left.right.left.left.right.left.left.right.right.right.right.right.right (noonmarkref14_year_m7 y) (kBlk 1 (kSeq k3 noonmarkref14_year_an.right.right.left.right.left.left.right (kSeq r2 noonmarkref14_year_an.right.right.left.right.left (kBlk 0 (kSeq k0 noonmarkref14_year_an.right.right (kFinO Try.prog 90 T_expand_Fire noonmarkref14_year_rr Try.f64))))))) = (noonmarkref14_year_s7 n (fun y => k0 (noonmarkref14_year_m0 y)) (fun y => r2 (noonmarkref14_year_m2 y)) (fun y => k3 (noonmarkref14_year_m3 y))) := funext fun y => by
      have := noonmarkref14_year_q7 n k0 r2 k3 y
      exact this
    have := (noonmarkref14_year_q8 n k0 r2 k3 (fun st => codeK Try.prog noonmarkref14_year_sp n (cr (cr (cr (cr (cr (cr (cl (cl (cr (cl (cl (cr (cl (cr (cr (bodyOf Try.f64)))))))))))))))) noonmarkref14_year_an.right.right.left.right.left.left.right.left.left.right.right.right.right.right.right st (kBlk 1 (kSeq k3 noonmarkref14_year_an.right.right.left.right.left.left.right (kSeq r2 noonmarkref14_year_an.right.right.left.right.left (kBlk 0 (kSeq k0 noonmarkref14_year_an.right.right (kFinO Try.prog 90 T_expand_Fire noonmarkref14_year_rr Try.f64))))))) r8 x')
    rw [h7] at this
    exact this) n _)
def noonmarkref14_year_p4 (n : Nat) (_k0 : noonmarkref14_year_t0 → Option ((List D_expand_Fire) × Unit)) (_r2 : noonmarkref14_year_t2 → Option ((List D_expand_Fire) × Unit)) (k3 : noonmarkref14_year_t3 → Option ((List D_expand_Fire) × Unit)) (k6 : noonmarkref14_year_t6 → Option ((List D_expand_Fire) × Unit)) (z : noonmarkref14_year_t4) : Option ((List D_expand_Fire) × Unit) :=
  bif decide (0 ≤ z.2.2.1) then
    ((z.1[Int.toNat z.2.2.1]?)).bind fun e4 =>
    bif decide (0 ≤ z.2.2.1) then
      ((z.1[Int.toNat z.2.2.1]?)).bind fun e5 =>
      ((noonmarkref06_Of n (e4.2.2.2.2.1, (z.2.1, (e5.2.2.2.1, ()))))).bind fun v6 =>
      bif (v6.2.1 != 0) then
        k3 (z.1, z.2.1, z.2.2.1, z.2.2.2)
      else
        bif decide (0 ≤ z.2.2.1) then
          ((z.1[Int.toNat z.2.2.1]?)).bind fun e8 =>
          k6 (z.1, z.2.1, z.2.2.1, (0 : Int), z.2.2.2, (z.2.2.1, (z.2.1, ((w64 ((w64 (v6.1 * 86400)) + e8.2.2.2.2.2.1.1)), ((0 : Int), ())))))
        else none
    else none
  else none
def noonmarkref14_year_s4 (n : Nat) (k0 : noonmarkref14_year_t0 → Option ((List D_expand_Fire) × Unit)) (r2 : noonmarkref14_year_t2 → Option ((List D_expand_Fire) × Unit)) (k3 : noonmarkref14_year_t3 → Option ((List D_expand_Fire) × Unit)) (z : noonmarkref14_year_t4) : Option ((List D_expand_Fire) × Unit) := noonmarkref14_year_p4 n k0 r2 k3 (noonmarkref14_year_s6 n k0 r2 k3) z
theorem noonmarkref14_year_e4 (n : Nat) (k0 : St → Option ((List D_expand_Fire) × Unit)) (r2 : St → Option ((List D_expand_Fire) × Unit)) (k3 : St → Option ((List D_expand_Fire) × Unit)) (rc : Code → An → St → (Ex → St → Option ((List D_expand_Fire) × Unit)) → Option ((List D_expand_Fire) × Unit)) (z : noonmarkref14_year_t4) : codeR rc Try.prog noonmarkref14_year_sp n (cr (cl (cl (cr (cl (cl (cr (cl (cr (cr (bodyOf Try.f64))))))))))) noonmarkref14_year_an.right.right.left.right.left.left.right.left.left.right (noonmarkref14_year_m4 z) (kBlk 1 (kSeq k3 noonmarkref14_year_an.right.right.left.right.left.left.right (kSeq r2 noonmarkref14_year_an.right.right.left.right.left (kBlk 0 (kSeq k0 noonmarkref14_year_an.right.right (kFinO Try.prog 90 T_expand_Fire noonmarkref14_year_rr Try.f64)))))) = noonmarkref14_year_p4 n (fun y => k0 (noonmarkref14_year_m0 y)) (fun y => r2 (noonmarkref14_year_m2 y)) (fun y => k3 (noonmarkref14_year_m3 y)) (fun y => rc (cr (cr (cr (cr (cr (cl (cl (cr (cl (cl (cr (cl (cr (cr (bodyOf Try.f64))))))))))))))) noonmarkref14_year_an.right.right.left.right.left.left.right.left.left.right.right.right.right.right (noonmarkref14_year_m6 y) (kBlk 1 (kSeq k3 noonmarkref14_year_an.right.right.left.right.left.left.right (kSeq r2 noonmarkref14_year_an.right.right.left.right.left (kBlk 0 (kSeq k0 noonmarkref14_year_an.right.right (kFinO Try.prog 90 T_expand_Fire noonmarkref14_year_rr Try.f64))))))) z := by kernel_rfl
theorem noonmarkref14_year_q4 (n : Nat) (k0 : St → Option ((List D_expand_Fire) × Unit)) (r2 : St → Option ((List D_expand_Fire) × Unit)) (k3 : St → Option ((List D_expand_Fire) × Unit)) (z : noonmarkref14_year_t4) : codeK Try.prog noonmarkref14_year_sp n (cr (cl (cl (cr (cl (cl (cr (cl (cr (cr (bodyOf Try.f64))))))))))) noonmarkref14_year_an.right.right.left.right.left.left.right.left.left.right (noonmarkref14_year_m4 z) (kBlk 1 (kSeq k3 noonmarkref14_year_an.right.right.left.right.left.left.right (kSeq r2 noonmarkref14_year_an.right.right.left.right.left (kBlk 0 (kSeq k0 noonmarkref14_year_an.right.right (kFinO Try.prog 90 T_expand_Fire noonmarkref14_year_rr Try.f64)))))) = noonmarkref14_year_s4 n (fun y => k0 (noonmarkref14_year_m0 y)) (fun y => r2 (noonmarkref14_year_m2 y)) (fun y => k3 (noonmarkref14_year_m3 y)) z := by
  have h6 : (fun y => codeK Try.prog noonmarkref14_year_sp n (cr (cr (cr (cr (cr (cl (cl (cr (cl (cl (cr (cl (cr (cr (bodyOf Try.f64))))))))))))))) noonmarkref14_year_an.right.right.left.right.left.left.right.left.left.right.right.right.right.right (noonmarkref14_year_m6 y) (kBlk 1 (kSeq k3 noonmarkref14_year_an.right.right.left.right.left.left.right (kSeq r2 noonmarkref14_year_an.right.right.left.right.left (kBlk 0 (kSeq k0 noonmarkref14_year_an.right.right (kFinO Try.prog 90 T_expand_Fire noonmarkref14_year_rr Try.f64))))))) = (noonmarkref14_year_s6 n (fun y => k0 (noonmarkref14_year_m0 y)) (fun y => r2 (noonmarkref14_year_m2 y)) (fun y => k3 (noonmarkref14_year_m3 y))) := funext fun y => by
    have := noonmarkref14_year_q6 n k0 r2 k3 y
    exact this
  rw [codeK_R, noonmarkref14_year_e4]
  rw [h6]
  rfl
def noonmarkref14_year_p5 (_n : Nat) (_k0 : noonmarkref14_year_t0 → Option ((List D_expand_Fire) × Unit)) (_r2 : noonmarkref14_year_t2 → Option ((List D_expand_Fire) × Unit)) (k3 : noonmarkref14_year_t3 → Option ((List D_expand_Fire) × Unit)) (k4 : noonmarkref14_year_t4 → Option ((List D_expand_Fire) × Unit)) (z : noonmarkref14_year_t5) : Option ((List D_expand_Fire) × Unit) :=
  bif z.2.2.2.1 then
    k3 (z.1, z.2.1, z.2.2.1, z.2.2.2.2)
  else
    k4 (z.1, z.2.1, z.2.2.1, z.2.2.2.2)
def noonmarkref14_year_s5 (n : Nat) (k0 : noonmarkref14_year_t0 → Option ((List D_expand_Fire) × Unit)) (r2 : noonmarkref14_year_t2 → Option ((List D_expand_Fire) × Unit)) (k3 : noonmarkref14_year_t3 → Option ((List D_expand_Fire) × Unit)) (k4 : noonmarkref14_year_t4 → Option ((List D_expand_Fire) × Unit)) (z : noonmarkref14_year_t5) : Option ((List D_expand_Fire) × Unit) := noonmarkref14_year_p5 n k0 r2 k3 k4 z
theorem noonmarkref14_year_e5 (n : Nat) (k0 : St → Option ((List D_expand_Fire) × Unit)) (r2 : St → Option ((List D_expand_Fire) × Unit)) (k3 : St → Option ((List D_expand_Fire) × Unit)) (k4 : St → Option ((List D_expand_Fire) × Unit)) (rc : Code → An → St → (Ex → St → Option ((List D_expand_Fire) × Unit)) → Option ((List D_expand_Fire) × Unit)) (z : noonmarkref14_year_t5) : codeR rc Try.prog noonmarkref14_year_sp n (cr (cl (cl (cl (cr (cl (cl (cr (cl (cr (cr (bodyOf Try.f64)))))))))))) noonmarkref14_year_an.right.right.left.right.left.left.right.left.left.left.right (noonmarkref14_year_m5 z) (kSeq k4 noonmarkref14_year_an.right.right.left.right.left.left.right.left.left (kBlk 1 (kSeq k3 noonmarkref14_year_an.right.right.left.right.left.left.right (kSeq r2 noonmarkref14_year_an.right.right.left.right.left (kBlk 0 (kSeq k0 noonmarkref14_year_an.right.right (kFinO Try.prog 90 T_expand_Fire noonmarkref14_year_rr Try.f64))))))) = noonmarkref14_year_p5 n (fun y => k0 (noonmarkref14_year_m0 y)) (fun y => r2 (noonmarkref14_year_m2 y)) (fun y => k3 (noonmarkref14_year_m3 y)) (fun y => k4 (noonmarkref14_year_m4 y)) z := by kernel_rfl
theorem noonmarkref14_year_q5 (n : Nat) (k0 : St → Option ((List D_expand_Fire) × Unit)) (r2 : St → Option ((List D_expand_Fire) × Unit)) (k3 : St → Option ((List D_expand_Fire) × Unit)) (k4 : St → Option ((List D_expand_Fire) × Unit)) (z : noonmarkref14_year_t5) : codeK Try.prog noonmarkref14_year_sp n (cr (cl (cl (cl (cr (cl (cl (cr (cl (cr (cr (bodyOf Try.f64)))))))))))) noonmarkref14_year_an.right.right.left.right.left.left.right.left.left.left.right (noonmarkref14_year_m5 z) (kSeq k4 noonmarkref14_year_an.right.right.left.right.left.left.right.left.left (kBlk 1 (kSeq k3 noonmarkref14_year_an.right.right.left.right.left.left.right (kSeq r2 noonmarkref14_year_an.right.right.left.right.left (kBlk 0 (kSeq k0 noonmarkref14_year_an.right.right (kFinO Try.prog 90 T_expand_Fire noonmarkref14_year_rr Try.f64))))))) = noonmarkref14_year_s5 n (fun y => k0 (noonmarkref14_year_m0 y)) (fun y => r2 (noonmarkref14_year_m2 y)) (fun y => k3 (noonmarkref14_year_m3 y)) (fun y => k4 (noonmarkref14_year_m4 y)) z := by
  rw [codeK_R, noonmarkref14_year_e5]
  rfl
def noonmarkref14_year_p2 (_n : Nat) (k0 : noonmarkref14_year_t0 → Option ((List D_expand_Fire) × Unit)) (_r2 : noonmarkref14_year_t2 → Option ((List D_expand_Fire) × Unit)) (k3 : noonmarkref14_year_t3 → Option ((List D_expand_Fire) × Unit)) (k4 : noonmarkref14_year_t4 → Option ((List D_expand_Fire) × Unit)) (k5 : noonmarkref14_year_t5 → Option ((List D_expand_Fire) × Unit)) (z : noonmarkref14_year_t2) : Option ((List D_expand_Fire) × Unit) :=
  bif (decide (z.2.2.1 < (List.length z.1 : Int))) then
    bif decide (0 ≤ z.2.2.1) then
      ((z.1[Int.toNat z.2.2.1]?)).bind fun e1 =>
      bif (decide (z.2.1 < e1.2.1)) then
        k5 (z.1, z.2.1, z.2.2.1, true, z.2.2.2)
      else
        bif decide (0 ≤ z.2.2.1) then
          ((z.1[Int.toNat z.2.2.1]?)).bind fun e2 =>
          bif (decide (z.2.1 > e2.2.2.1)) then
            k5 (z.1, z.2.1, z.2.2.1, true, z.2.2.2)
          else
            bif (decide (z.2.1 < 1)) then
              k5 (z.1, z.2.1, z.2.2.1, true, z.2.2.2)
            else
              k5 (z.1, z.2.1, z.2.2.1, (decide (z.2.1 > 9999)), z.2.2.2)
        else none
    else none
  else
    k0 z.2.2.2
def noonmarkref14_year_s2 (n : Nat) (k0 : noonmarkref14_year_t0 → Option ((List D_expand_Fire) × Unit)) (r2 : noonmarkref14_year_t2 → Option ((List D_expand_Fire) × Unit)) (z : noonmarkref14_year_t2) : Option ((List D_expand_Fire) × Unit) := noonmarkref14_year_p2 n k0 r2 (noonmarkref14_year_s3 n k0 r2) (noonmarkref14_year_s4 n k0 r2 (noonmarkref14_year_s3 n k0 r2)) (noonmarkref14_year_s5 n k0 r2 (noonmarkref14_year_s3 n k0 r2) (noonmarkref14_year_s4 n k0 r2 (noonmarkref14_year_s3 n k0 r2))) z
theorem noonmarkref14_year_e2 (n : Nat) (k0 : St → Option ((List D_expand_Fire) × Unit)) (r2 : St → Option ((List D_expand_Fire) × Unit)) (rc : Code → An → St → (Ex → St → Option ((List D_expand_Fire) × Unit)) → Option ((List D_expand_Fire) × Unit)) (z : noonmarkref14_year_t2) : codeR rc Try.prog noonmarkref14_year_sp n (cl (cl (cr (cl (cr (cr (bodyOf Try.f64))))))) noonmarkref14_year_an.right.right.left.right.left.left (noonmarkref14_year_m2 z) (kSeq r2 noonmarkref14_year_an.right.right.left.right.left (kBlk 0 (kSeq k0 noonmarkref14_year_an.right.right (kFinO Try.prog 90 T_expand_Fire noonmarkref14_year_rr Try.f64)))) = noonmarkref14_year_p2 n (fun y => k0 (noonmarkref14_year_m0 y)) (fun y => r2 (noonmarkref14_year_m2 y)) (fun y => rc (cr (cr (cl (cl (cr (cl (cr (cr (bodyOf Try.f64))))))))) noonmarkref14_year_an.right.right.left.right.left.left.right.right (noonmarkref14_year_m3 y) (kSeq r2 noonmarkref14_year_an.right.right.left.right.left (kBlk 0 (kSeq k0 noonmarkref14_year_an.right.right (kFinO Try.prog 90 T_expand_Fire noonmarkref14_year_rr Try.f64))))) (fun y => rc (cr (cl (cl (cr (cl (cl (cr (cl (cr (cr (bodyOf Try.f64))))))))))) noonmarkref14_year_an.right.right.left.right.left.left.right.left.left.right (noonmarkref14_year_m4 y) (kBlk 1 (kSeq (fun st => rc (cr (cr (cl (cl (cr (cl (cr (cr (bodyOf Try.f64))))))))) noonmarkref14_year_an.right.right.left.right.left.left.right.right st (kSeq r2 noonmarkref14_year_an.right.right.left.right.left (kBlk 0 (kSeq k0 noonmarkref14_year_an.right.right (kFinO Try.prog 90 T_expand_Fire noonmarkref14_year_rr Try.f64))))) noonmarkref14_year_an.right.right.left.right.left.left.right (kSeq r2 noonmarkref14_year_an.right.right.left.right.left (kBlk 0 (kSeq k0 noonmarkref14_year_an.right.right (kFinO Try.prog 90 T_expand_Fire noonmarkref14_year_rr Try.f64))))))) (fun y => rc (cr (cl (cl (cl (cr (cl (cl (cr (cl (cr (cr (bodyOf Try.f64)))))))))))) noonmarkref14_year_an.right.right.left.right.left.left.right.left.left.left.right (noonmarkref14_year_m5 y) (kSeq (fun st => rc (cr (cl (cl (cr (cl (cl (cr (cl (cr (cr (bodyOf Try.f64))))))))))) noonmarkref14_year_an.right.right.left.right.left.left.right.left.left.right st (kBlk 1 (kSeq (fun st => rc (cr (cr (cl (cl (cr (cl (cr (cr (bodyOf Try.f64))))))))) noonmarkref14_year_an.right.right.left.right.left.left.right.right st (kSeq r2 noonmarkref14_year_an.right.right.left.right.left (kBlk 0 (kSeq k0 noonmarkref14_year_an.right.right (kFinO Try.prog 90 T_expand_Fire noonmarkref14_year_rr Try.f64))))) noonmarkref14_year_an.right.right.left.right.left.left.right (kSeq r2 noonmarkref14_year_an.right.right.left.right.left (kBlk 0 (kSeq k0 noonmarkref14_year_an.right.right (kFinO Try.prog 90 T_expand_Fire noonmarkref14_year_rr Try.f64))))))) noonmarkref14_year_an.right.right.left.right.left.left.right.left.left (kBlk 1 (kSeq (fun st => rc (cr (cr (cl (cl (cr (cl (cr (cr (bodyOf Try.f64))))))))) noonmarkref14_year_an.right.right.left.right.left.left.right.right st (kSeq r2 noonmarkref14_year_an.right.right.left.right.left (kBlk 0 (kSeq k0 noonmarkref14_year_an.right.right (kFinO Try.prog 90 T_expand_Fire noonmarkref14_year_rr Try.f64))))) noonmarkref14_year_an.right.right.left.right.left.left.right (kSeq r2 noonmarkref14_year_an.right.right.left.right.left (kBlk 0 (kSeq k0 noonmarkref14_year_an.right.right (kFinO Try.prog 90 T_expand_Fire noonmarkref14_year_rr Try.f64)))))))) z := by kernel_rfl
theorem noonmarkref14_year_q2 (n : Nat) (k0 : St → Option ((List D_expand_Fire) × Unit)) (r2 : St → Option ((List D_expand_Fire) × Unit)) (z : noonmarkref14_year_t2) : codeK Try.prog noonmarkref14_year_sp n (cl (cl (cr (cl (cr (cr (bodyOf Try.f64))))))) noonmarkref14_year_an.right.right.left.right.left.left (noonmarkref14_year_m2 z) (kSeq r2 noonmarkref14_year_an.right.right.left.right.left (kBlk 0 (kSeq k0 noonmarkref14_year_an.right.right (kFinO Try.prog 90 T_expand_Fire noonmarkref14_year_rr Try.f64)))) = noonmarkref14_year_s2 n (fun y => k0 (noonmarkref14_year_m0 y)) (fun y => r2 (noonmarkref14_year_m2 y)) z := by
  have h3 : (fun y => codeK Try.prog noonmarkref14_year_sp n (cr (cr (cl (cl (cr (cl (cr (cr (bodyOf Try.f64))))))))) noonmarkref14_year_an.right.right.left.right.left.left.right.right (noonmarkref14_year_m3 y) (kSeq r2 noonmarkref14_year_an.right.right.left.right.left (kBlk 0 (kSeq k0 noonmarkref14_year_an.right.right (kFinO Try.prog 90 T_expand_Fire noonmarkref14_year_rr Try.f64))))) = (noonmarkref14_year_s3 n (fun y => k0 (noonmarkref14_year_m0 y)) (fun y => r2 (noonmarkref14_year_m2 y))) := funext fun y => by
    have := noonmarkref14_year_q3 n k0 r2 y
    exact this
  have h4 : (fun y => codeK Try.prog noonmarkref14_year_sp n (cr (cl (cl (cr (cl (cl (cr (cl (cr (cr (bodyOf Try.f64))))))))))) noonmarkref14_year_an.right.right.left.right.left.left.right.left.left.right (noonmarkref14_year_m4 y) (kBlk 1 (kSeq (fun st => codeK Try.prog noonmarkref14_year_sp n (cr (cr (cl (cl (cr (cl (cr (cr (bodyOf Try.f64))))))))) noonmarkref14_year_an.right.right.left.right.left.left.right.right st (kSeq r2 noonmarkref14_year_an.right.right.left.right.left (kBlk 0 (kSeq k0 noonmarkref14_year_an.right.right (kFinO Try.prog 90 T_expand_Fire noonmarkref14_year_rr Try.f64))))) noonmarkref14_year_an.right.right.left.right.left.left.right (kSeq r2 noonmarkref14_year_an.right.right.left.right.left (kBlk 0 (kSeq k0 noonmarkref14_year_an.right.right (kFinO Try.prog 90 T_expand_Fire noonmarkref14_year_rr Try.f64))))))) = (noonmarkref14_year_s4 n (fun y => k0 (noonmarkref14_year_m0 y)) (fun y => r2 (noonmarkref14_year_m2 y)) (noonmarkref14_year_s3 n (fun y => k0 (noonmarkref14_year_m0 y)) (fun y => r2 (noonmarkref14_year_m2 y)))) := funext fun y => by
    have := noonmarkref14_year_q4 n k0 r2 (fun st => codeK Try.prog noonmarkref14_year_sp n (cr (cr (cl (cl (cr (cl (cr (cr (bodyOf Try.f64))))))))) noonmarkref14_year_an.right.right.left.right.left.left.right.right st (kSeq r2 noonmarkref14_year_an.right.right.left.right.left (kBlk 0 (kSeq k0 noonmarkref14_year_an.right.right (kFinO Try.prog 90 T_expand_Fire noonmarkref14_year_rr Try.f64))))) y
    rw [h3] at this; exact this
  have h5 : (fun y => codeK Try.prog noonmarkref14_year_sp n (cr (cl (cl (cl (cr (cl (cl (cr (cl (cr (cr (bodyOf Try.f64)))))))))))) noonmarkref14_year_an.right.right.left.right.left.left.right.left.left.left.right (noonmarkref14_year_m5 y) (kSeq (fun st => codeK Try.prog noonmarkref14_year_sp n (cr (cl (cl (cr (cl (cl (cr (cl (cr (cr (bodyOf Try.f64))))))))))) noonmarkref14_year_an.right.right.left.right.left.left.right.left.left.right st (kBlk 1 (kSeq (fun st => codeK Try.prog noonmarkref14_year_sp n (cr (cr (cl (cl (cr (cl (cr (cr (bodyOf Try.f64))))))))) noonmarkref14_year_an.right.right.left.right.left.left.right.right st (kSeq r2 noonmarkref14_year_an.right.right.left.right.left (kBlk 0 (kSeq k0 noonmarkref14_year_an.right.right (kFinO Try.prog 90 T_expand_Fire noonmarkref14_year_rr Try.f64))))) noonmarkref14_year_an.right.right.left.right.left.left.right (kSeq r2 noonmarkref14_year_an.right.right.left.right.left (kBlk 0 (kSeq k0 noonmarkref14_year_an.right.right (kFinO Try.prog 90 T_expand_Fire noonmarkref14_year_rr Try.f64))))))) noonmarkref14_year_an.right.right.left.right.left.left.right.left.left (kBlk 1 (kSeq (fun st => codeK Try.prog noonmarkref14_year_sp n (cr (cr (cl (cl (cr (cl (cr (cr (bodyOf Try.f64))))))))) noonmarkref14_year_an.right.right.left.right.left.left.right.right st (kSeq r2 noonmarkref14_year_an.right.right.left.right.left (kBlk 0 (kSeq k0 noonmarkref14_year_an.right.right (kFinO Try.prog 90 T_expand_Fire noonmarkref14_year_rr Try.f64))))) noonmarkref14_year_an.right.right.left.right.left.left.right (kSeq r2 noonmarkref14_year_an.right.right.left.right.left (kBlk 0 (kSeq k0 noonmarkref14_year_an.right.right (kFinO Try.prog 90 T_expand_Fire noonmarkref14_year_rr Try.f64)))))))) = (noonmarkref14_year_s5 n (fun y => k0 (noonmarkref14_year_m0 y)) (fun y => r2 (noonmarkref14_year_m2 y)) (noonmarkref14_year_s3 n (fun y => k0 (noonmarkref14_year_m0 y)) (fun y => r2 (noonmarkref14_year_m2 y))) (noonmarkref14_year_s4 n (fun y => k0 (noonmarkref14_year_m0 y)) (fun y => r2 (noonmarkref14_year_m2 y)) (noonmarkref14_year_s3 n (fun y => k0 (noonmarkref14_year_m0 y)) (fun y => r2 (noonmarkref14_year_m2 y))))) := funext fun y => by
    have := noonmarkref14_year_q5 n k0 r2 (fun st => codeK Try.prog noonmarkref14_year_sp n (cr (cr (cl (cl (cr (cl (cr (cr (bodyOf Try.f64))))))))) noonmarkref14_year_an.right.right.left.right.left.left.right.right st (kSeq r2 noonmarkref14_year_an.right.right.left.right.left (kBlk 0 (kSeq k0 noonmarkref14_year_an.right.right (kFinO Try.prog 90 T_expand_Fire noonmarkref14_year_rr Try.f64))))) (fun st => codeK Try.prog noonmarkref14_year_sp n (cr (cl (cl (cr (cl (cl (cr (cl (cr (cr (bodyOf Try.f64))))))))))) noonmarkref14_year_an.right.right.left.right.left.left.right.left.left.right st (kBlk 1 (kSeq (fun st => codeK Try.prog noonmarkref14_year_sp n (cr (cr (cl (cl (cr (cl (cr (cr (bodyOf Try.f64))))))))) noonmarkref14_year_an.right.right.left.right.left.left.right.right st (kSeq r2 noonmarkref14_year_an.right.right.left.right.left (kBlk 0 (kSeq k0 noonmarkref14_year_an.right.right (kFinO Try.prog 90 T_expand_Fire noonmarkref14_year_rr Try.f64))))) noonmarkref14_year_an.right.right.left.right.left.left.right (kSeq r2 noonmarkref14_year_an.right.right.left.right.left (kBlk 0 (kSeq k0 noonmarkref14_year_an.right.right (kFinO Try.prog 90 T_expand_Fire noonmarkref14_year_rr Try.f64))))))) y
    rw [h3] at this; rw [h4] at this; exact this
  rw [codeK_R, noonmarkref14_year_e2]
  rw [h3]
  rw [h4]
  rw [h5]
  rfl
def noonmarkref14_year_s1 (n : Nat) (k0 : noonmarkref14_year_t0 → Option ((List D_expand_Fire) × Unit)) (z : noonmarkref14_year_t1) : Option ((List D_expand_Fire) × Unit) :=
  rounds (fun r2 x' => noonmarkref14_year_s2 n k0 r2 x') n (z.1, z.2.1, z.2.2, ([] : List D_expand_Fire))
theorem noonmarkref14_year_q1 (n : Nat) (k0 : St → Option ((List D_expand_Fire) × Unit)) (z : noonmarkref14_year_t1) : codeK Try.prog noonmarkref14_year_sp n (cr (cl (cr (cr (bodyOf Try.f64))))) noonmarkref14_year_an.right.right.left.right (noonmarkref14_year_m1 z) (kSeq k0 noonmarkref14_year_an.right.right (kFinO Try.prog 90 T_expand_Fire noonmarkref14_year_rr Try.f64)) = noonmarkref14_year_s1 n (fun y => k0 (noonmarkref14_year_m0 y)) z :=
  Eq.trans (b := rounds (fun r2 st => codeK Try.prog noonmarkref14_year_sp n (cl (cl (cr (cl (cr (cr (bodyOf Try.f64))))))) noonmarkref14_year_an.right.right.left.right.left.left st (kSeq r2 noonmarkref14_year_an.right.right.left.right.left (kBlk 0 (kSeq k0 noonmarkref14_year_an.right.right (kFinO Try.prog 90 T_expand_Fire noonmarkref14_year_rr Try.f64))))) n (noonmarkref14_year_m2 (z.1, z.2.1, z.2.2, ([] : List D_expand_Fire)))) (by kernel_rfl) (rounds_mk noonmarkref14_year_m2 (fun r2 x' => by
    have := (noonmarkref14_year_q2 n k0 r2 x')
    exact this) n _)
def noonmarkref14_year_px (_n : Nat) (k0 : noonmarkref14_year_t0 → Option ((List D_expand_Fire) × Unit)) (k1 : noonmarkref14_year_t1 → Option ((List D_expand_Fire) × Unit)) (x : ((List D_api_Rule) × (Int × Unit))) : Option ((List D_expand_Fire) × Unit) :=
  k1 (x.1, x.2.1, (0 : Int))
def noonmarkref14_year (n : Nat) (x : ((List D_api_Rule) × (Int × Unit))) : Option ((List D_expand_Fire) × Unit) := noonmarkref14_year_px n (noonmarkref14_year_s0 n) (noonmarkref14_year_s1 n (noonmarkref14_year_s0 n)) x
theorem noonmarkref14_year_ex (n : Nat) (rc : Code → An → St → (Ex → St → Option ((List D_expand_Fire) × Unit)) → Option ((List D_expand_Fire) × Unit)) (x : ((List D_api_Rule) × (Int × Unit))) : codeR rc Try.prog noonmarkref14_year_sp n (bodyOf Try.f64) noonmarkref14_year_an (start noonmarkref14_year_ps x (Func.ntmps Try.f64)) (kFinO Try.prog 90 T_expand_Fire noonmarkref14_year_rr Try.f64) = noonmarkref14_year_px n (fun y => rc (cr (cr (cr (bodyOf Try.f64)))) noonmarkref14_year_an.right.right.right (noonmarkref14_year_m0 y) (kFinO Try.prog 90 T_expand_Fire noonmarkref14_year_rr Try.f64)) (fun y => rc (cr (cl (cr (cr (bodyOf Try.f64))))) noonmarkref14_year_an.right.right.left.right (noonmarkref14_year_m1 y) (kSeq (fun st => rc (cr (cr (cr (bodyOf Try.f64)))) noonmarkref14_year_an.right.right.right st (kFinO Try.prog 90 T_expand_Fire noonmarkref14_year_rr Try.f64)) noonmarkref14_year_an.right.right (kFinO Try.prog 90 T_expand_Fire noonmarkref14_year_rr Try.f64))) x := by kernel_rfl
theorem noonmarkref14_year_qx (n : Nat) (x : ((List D_api_Rule) × (Int × Unit))) : codeK Try.prog noonmarkref14_year_sp n (bodyOf Try.f64) noonmarkref14_year_an (start noonmarkref14_year_ps x (Func.ntmps Try.f64)) (kFinO Try.prog 90 T_expand_Fire noonmarkref14_year_rr Try.f64) = noonmarkref14_year n x := by
  have h0 : (fun y => codeK Try.prog noonmarkref14_year_sp n (cr (cr (cr (bodyOf Try.f64)))) noonmarkref14_year_an.right.right.right (noonmarkref14_year_m0 y) (kFinO Try.prog 90 T_expand_Fire noonmarkref14_year_rr Try.f64)) = (noonmarkref14_year_s0 n) := funext fun y => by
    have := noonmarkref14_year_q0 n  y
    exact this
  have h1 : (fun y => codeK Try.prog noonmarkref14_year_sp n (cr (cl (cr (cr (bodyOf Try.f64))))) noonmarkref14_year_an.right.right.left.right (noonmarkref14_year_m1 y) (kSeq (fun st => codeK Try.prog noonmarkref14_year_sp n (cr (cr (cr (bodyOf Try.f64)))) noonmarkref14_year_an.right.right.right st (kFinO Try.prog 90 T_expand_Fire noonmarkref14_year_rr Try.f64)) noonmarkref14_year_an.right.right (kFinO Try.prog 90 T_expand_Fire noonmarkref14_year_rr Try.f64))) = (noonmarkref14_year_s1 n (noonmarkref14_year_s0 n)) := funext fun y => by
    have := noonmarkref14_year_q1 n (fun st => codeK Try.prog noonmarkref14_year_sp n (cr (cr (cr (bodyOf Try.f64)))) noonmarkref14_year_an.right.right.right st (kFinO Try.prog 90 T_expand_Fire noonmarkref14_year_rr Try.f64)) y
    rw [h0] at this; exact this
  rw [codeK_R, noonmarkref14_year_ex]
  rw [h0]
  rw [h1]
  rfl
def noonmarkref14_year_spec : SpO := ⟨noonmarkref14_year_ps, 90, T_expand_Fire, noonmarkref14_year_rr, noonmarkref14_year⟩
theorem noonmarkref14_year_ok : SoundX Try.prog CX 64 (.o noonmarkref14_year_spec) := sound_funO (look_cons noonmarkref06_Of_ok (look_cons noonmarkref14_before_ok look_nil)) Try.func64 (by kernel_rfl) rfl noonmarkref14_year_an noonmarkref14_year_spec rfl rfl rfl noonmarkref14_year_qx

/-! ### noonmark/noonmarkref14.least -/
abbrev noonmarkref14_least_ps : Ty := (.pair (.list T_api_Rule) .unit)
abbrev noonmarkref14_least_rs : Ty := (.pair (.int .i64) .unit)
def noonmarkref14_least_sp : Specs := look []
def noonmarkref14_least_an : An := (.s .o (.s .o (.k [] [3] 0 (.k [] [0,3,4] 0 .o (.b (.l [] [0,3,4] 0 .o))) .o)))
abbrev noonmarkref14_least_t0 := Int
def noonmarkref14_least_m0 (z : noonmarkref14_least_t0) : St := ⟨[.junk, .junk, .junk, .v ⟨(.int .i64), z⟩, .junk, .junk, .junk, .junk, .junk, .junk, .junk, .junk, .junk, .junk, .junk, .junk, .junk, .junk, .junk, .junk], []⟩
abbrev noonmarkref14_least_t1 := (List D_api_Rule) × Int × Int
def noonmarkref14_least_m1 (z : noonmarkref14_least_t1) : St := ⟨[.v ⟨(.list T_api_Rule), z.1⟩, .junk, .junk, .v ⟨(.int .i64), z.2.1⟩, .v ⟨(.int .i64), z.2.2⟩, .junk, .junk, .junk, .junk, .junk, .junk, .junk, .junk, .junk, .junk, .junk, .junk, .junk, .junk, .junk], []⟩
abbrev noonmarkref14_least_t2 := (List D_api_Rule) × Int × Int
def noonmarkref14_least_m2 (z : noonmarkref14_least_t2) : St := ⟨[.v ⟨(.list T_api_Rule), z.1⟩, .junk, .junk, .v ⟨(.int .i64), z.2.1⟩, .v ⟨(.int .i64), z.2.2⟩, .junk, .junk, .junk, .junk, .junk, .junk, .junk, .junk, .junk, .junk, .junk, .junk, .junk, .junk, .junk], []⟩
def noonmarkref14_least_p0 (_n : Nat) (z : noonmarkref14_least_t0) : Option (Int × Unit) :=
  some (z, ())
def noonmarkref14_least_s0 (n : Nat) (z : noonmarkref14_least_t0) : Option (Int × Unit) := noonmarkref14_least_p0 n z
theorem noonmarkref14_least_e0 (n : Nat) (rc : Code → An → St → (Ex → St → Option (Int × Unit)) → Option (Int × Unit)) (z : noonmarkref14_least_t0) : codeR rc Try.prog noonmarkref14_least_sp n (cr (cr (cr (bodyOf Try.f75)))) noonmarkref14_least_an.right.right.right (noonmarkref14_least_m0 z) (kFin Try.prog noonmarkref14_least_rs Try.f75) = noonmarkref14_least_p0 n z := by kernel_rfl
theorem noonmarkref14_least_q0 (n : Nat) (z : noonmarkref14_least_t0) : codeK Try.prog noonmarkref14_least_sp n (cr (cr (cr (bodyOf Try.f75)))) noonmarkref14_least_an.right.right.right (noonmarkref14_least_m0 z) (kFin Try.prog noonmarkref14_least_rs Try.f75) = noonmarkref14_least_s0 n z := by
  rw [codeK_R, noonmarkref14_least_e0]
  rfl
def noonmarkref14_least_p2 (_n : Nat) (k0 : noonmarkref14_least_t0 → Option (Int × Unit)) (r2 : noonmarkref14_least_t2 → Option (Int × Unit)) (z : noonmarkref14_least_t2) : Option (Int × Unit) :=
  bif (decide (z.2.2 < (List.length z.1 : Int))) then
    bif decide (0 ≤ z.2.2) then
      ((z.1[Int.toNat z.2.2]?)).bind fun e1 =>
      r2 (z.1, (imin z.2.1 (imax e1.2.1 (1 : Int))), (w64 (z.2.2 + 1)))
    else none
  else
    k0 z.2.1
def noonmarkref14_least_s2 (n : Nat) (k0 : noonmarkref14_least_t0 → Option (Int × Unit)) (r2 : noonmarkref14_least_t2 → Option (Int × Unit)) (z : noonmarkref14_least_t2) : Option (Int × Unit) := noonmarkref14_least_p2 n k0 r2 z
theorem noonmarkref14_least_e2 (n : Nat) (k0 : St → Option (Int × Unit)) (r2 : St → Option (Int × Unit)) (rc : Code → An → St → (Ex → St → Option (Int × Unit)) → Option (Int × Unit)) (z : noonmarkref14_least_t2) : codeR rc Try.prog noonmarkref14_least_sp n (cl (cl (cr (cl (cr (cr (bodyOf Try.f75))))))) noonmarkref14_least_an.right.right.left.right.left.left (noonmarkref14_least_m2 z) (kSeq r2 noonmarkref14_least_an.right.right.left.right.left (kBlk 0 (kSeq k0 noonmarkref14_least_an.right.right (kFin Try.prog noonmarkref14_least_rs Try.f75)))) = noonmarkref14_least_p2 n (fun y => k0 (noonmarkref14_least_m0 y)) (fun y => r2 (noonmarkref14_least_m2 y)) z := by kernel_rfl
theorem noonmarkref14_least_q2 (n : Nat) (k0 : St → Option (Int × Unit)) (r2 : St → Option (Int × Unit)) (z : noonmarkref14_least_t2) : codeK Try.prog noonmarkref14_least_sp n (cl (cl (cr (cl (cr (cr (bodyOf Try.f75))))))) noonmarkref14_least_an.right.right.left.right.left.left (noonmarkref14_least_m2 z) (kSeq r2 noonmarkref14_least_an.right.right.left.right.left (kBlk 0 (kSeq k0 noonmarkref14_least_an.right.right (kFin Try.prog noonmarkref14_least_rs Try.f75)))) = noonmarkref14_least_s2 n (fun y => k0 (noonmarkref14_least_m0 y)) (fun y => r2 (noonmarkref14_least_m2 y)) z := by
  rw [codeK_R, noonmarkref14_least_e2]
  rfl
def noonmarkref14_least_s1 (n : Nat) (k0 : noonmarkref14_least_t0 → Option (Int × Unit)) (z : noonmarkref14_least_t1) : Option (Int × Unit) :=
  rounds (fun r2 x' => noonmarkref14_least_s2 n k0 r2 x') n (z.1, z.2.1, z.2.2)
theorem noonmarkref14_least_q1 (n : Nat) (k0 : St → Option (Int × Unit)) (z : noonmarkref14_least_t1) : codeK Try.prog noonmarkref14_least_sp n (cr (cl (cr (cr (bodyOf Try.f75))))) noonmarkref14_least_an.right.right.left.right (noonmarkref14_least_m1 z) (kSeq k0 noonmarkref14_least_an.right.right (kFin Try.prog noonmarkref14_least_rs Try.f75)) = noonmarkref14_least_s1 n (fun y => k0 (noonmarkref14_least_m0 y)) z :=
  Eq.trans (b := rounds (fun r2 st => codeK Try.prog noonmarkref14_least_sp n (cl (cl (cr (cl (cr (cr (bodyOf Try.f75))))))) noonmarkref14_least_an.right.right.left.right.left.left st (kSeq r2 noonmarkref14_least_an.right.right.left.right.left (kBlk 0 (kSeq k0 noonmarkref14_least_an.right.right (kFin Try.prog noonmarkref14_least_rs Try.f75))))) n (noonmarkref14_least_m2 (z.1, z.2.1, z.2.2))) (by kernel_rfl) (rounds_mk noonmarkref14_least_m2 (fun r2 x' => by
    have := (noonmarkref14_least_q2 n k0 r2 x')
    exact this) n _)
def noonmarkref14_least_px (_n : Nat) (k0 : noonmarkref14_least_t0 → Option (Int × Unit)) (k1 : noonmarkref14_least_t1 → Option (Int × Unit)) (x : ((List D_api_Rule) × Unit)) : Option (Int × Unit) :=
  k1 (x.1, (10000 : Int), (0 : Int))
def noonmarkref14_least (n : Nat) (x : ((List D_api_Rule) × Unit)) : Option (Int × Unit) := noonmarkref14_least_px n (noonmarkref14_least_s0 n) (noonmarkref14_least_s1 n (noonmarkref14_least_s0 n)) x
theorem noonmarkref14_least_ex (n : Nat) (rc : Code → An → St → (Ex → St → Option (Int × Unit)) → Option (Int × Unit)) (x : ((List D_api_Rule) × Unit)) : codeR rc Try.prog noonmarkref14_least_sp n (bodyOf Try.f75) noonmarkref14_least_an (start noonmarkref14_least_ps x (Func.ntmps Try.f75)) (kFin Try.prog noonmarkref14_least_rs Try.f75) = noonmarkref14_least_px n (fun y => rc (cr (cr (cr (bodyOf Try.f75)))) noonmarkref14_least_an.right.right.right (noonmarkref14_least_m0 y) (kFin Try.prog noonmarkref14_least_rs Try.f75)) (fun y => rc (cr (cl (cr (cr (bodyOf Try.f75))))) noonmarkref14_least_an.right.right.left.right (noonmarkref14_least_m1 y) (kSeq (fun st => rc (cr (cr (cr (bodyOf Try.f75)))) noonmarkref14_least_an.right.right.right st (kFin Try.prog noonmarkref14_least_rs Try.f75)) noonmarkref14_least_an.right.right (kFin Try.prog noonmarkref14_least_rs Try.f75))) x := by kernel_rfl
theorem noonmarkref14_least_qx (n : Nat) (x : ((List D_api_Rule) × Unit)) : codeK Try.prog noonmarkref14_least_sp n (bodyOf Try.f75) noonmarkref14_least_an (start noonmarkref14_least_ps x (Func.ntmps Try.f75)) (kFin Try.prog noonmarkref14_least_rs Try.f75) = noonmarkref14_least n x := by
  have h0 : (fun y => codeK Try.prog noonmarkref14_least_sp n (cr (cr (cr (bodyOf Try.f75)))) noonmarkref14_least_an.right.right.right (noonmarkref14_least_m0 y) (kFin Try.prog noonmarkref14_least_rs Try.f75)) = (noonmarkref14_least_s0 n) := funext fun y => by
    have := noonmarkref14_least_q0 n  y
    exact this
  have h1 : (fun y => codeK Try.prog noonmarkref14_least_sp n (cr (cl (cr (cr (bodyOf Try.f75))))) noonmarkref14_least_an.right.right.left.right (noonmarkref14_least_m1 y) (kSeq (fun st => codeK Try.prog noonmarkref14_least_sp n (cr (cr (cr (bodyOf Try.f75)))) noonmarkref14_least_an.right.right.right st (kFin Try.prog noonmarkref14_least_rs Try.f75)) noonmarkref14_least_an.right.right (kFin Try.prog noonmarkref14_least_rs Try.f75))) = (noonmarkref14_least_s1 n (noonmarkref14_least_s0 n)) := funext fun y => by
    have := noonmarkref14_least_q1 n (fun st => codeK Try.prog noonmarkref14_least_sp n (cr (cr (cr (bodyOf Try.f75)))) noonmarkref14_least_an.right.right.right st (kFin Try.prog noonmarkref14_least_rs Try.f75)) y
    rw [h0] at this; exact this
  rw [codeK_R, noonmarkref14_least_ex]
  rw [h0]
  rw [h1]
  rfl
def noonmarkref14_least_spec : Sp := ⟨noonmarkref14_least_ps, noonmarkref14_least_rs, noonmarkref14_least⟩
theorem noonmarkref14_least_ok : SoundX Try.prog CX 75 (.f noonmarkref14_least_spec) := sound_of look_nil Try.func75 (by kernel_rfl) rfl noonmarkref14_least_an noonmarkref14_least_spec rfl rfl noonmarkref14_least_qx

/-! ### noonmark/noonmarkref14.ahead -/
abbrev noonmarkref14_ahead_ps : Ty := (.pair (.list T_api_Rule) (.pair (.int .i64) .unit))
abbrev noonmarkref14_ahead_rs : Ty := (.pair (.int .i64) .unit)
def noonmarkref14_ahead_sp : Specs := look [(43, .f noonmarkref14_Span_spec), (64, .o noonmarkref14_year_spec), (75, .f noonmarkref14_least_spec)]
def noonmarkref14_ahead_an : An := (.s .o (.s .o (.k [] [0,1] 0 .o (.k [] [] 0 (.k [] [0,8] 0 .o (.b (.l [] [0,8] 0 .o))) .o))))
abbrev noonmarkref14_ahead_t0 := (List D_api_Rule) × Int
def noonmarkref14_ahead_m0 (z : noonmarkref14_ahead_t0) : St := ⟨[.v ⟨(.list T_api_Rule), z.1⟩, .v ⟨(.int .i64), z.2⟩, .junk, .junk, .junk, .junk, .junk, .junk, .junk, .junk, .junk, .junk, .junk, .junk, .junk, .junk, .junk, .junk, .junk, .junk, .junk, .junk, .junk, .junk, .junk, .junk, .junk, .junk, .junk, .junk, .junk, .junk, .junk, .junk, .junk, .junk, .junk, .junk, .junk, .junk, .junk, .junk, .junk, .junk, .junk, .junk, .junk, .junk], []⟩
abbrev noonmarkref14_ahead_t1 := Unit
def noonmarkref14_ahead_m1 (_z : noonmarkref14_ahead_t1) : St := ⟨[.junk, .junk, .junk, .junk, .junk, .junk, .junk, .junk, .junk, .junk, .junk, .junk, .junk, .junk, .junk, .junk, .junk, .junk, .junk, .junk, .junk, .junk, .junk, .junk, .junk, .junk, .junk, .junk, .junk, .junk, .junk, .junk, .junk, .junk, .junk, .junk, .junk, .junk, .junk, .junk, .junk, .junk, .junk, .junk, .junk, .junk, .junk, .junk], []⟩
abbrev noonmarkref14_ahead_t2 := (List D_api_Rule) × Int
def noonmarkref14_ahead_m2 (z : noonmarkref14_ahead_t2) : St := ⟨[.v ⟨(.list T_api_Rule), z.1⟩, .junk, .junk, .junk, .junk, .junk, .junk, .junk, .v ⟨(.int .i64), z.2⟩, .junk, .junk, .junk, .junk, .junk, .junk, .junk, .junk, .junk, .junk, .junk, .junk, .junk, .junk, .junk, .junk, .junk, .junk, .junk, .junk, .junk, .junk, .junk, .junk, .junk, .junk, .junk, .junk, .junk, .junk, .junk, .junk, .junk, .junk, .junk, .junk, .junk, .junk, .junk], []⟩
abbrev noonmarkref14_ahead_t3 := (List D_api_Rule) × Int
def noonmarkref14_ahead_m3 (z : noonmarkref14_ahead_t3) : St := ⟨[.v ⟨(.list T_api_Rule), z.1⟩, .junk, .junk, .junk, .junk, .junk, .junk, .junk, .v ⟨(.int .i64), z.2⟩, .junk, .junk, .junk, .junk, .junk, .junk, .junk, .junk, .junk, .junk, .junk, .junk, .junk, .junk, .junk, .junk, .junk, .junk, .junk, .junk, .junk, .junk, .junk, .junk, .junk, .junk, .junk, .junk, .junk, .junk, .junk, .junk, .junk, .junk, .junk, .junk, .junk, .junk, .junk], []⟩
def noonmarkref14_ahead_p1 (_n : Nat) (_z : noonmarkref14_ahead_t1) : Option (Int × Unit) :=
  some ((0 : Int), ())
def noonmarkref14_ahead_s1 (n : Nat) (z : noonmarkref14_ahead_t1) : Option (Int × Unit) := noonmarkref14_ahead_p1 n z
theorem noonmarkref14_ahead_e1 (n : Nat) (rc : Code → An → St → (Ex → St → Option (Int × Unit)) → Option (Int × Unit)) (z : noonmarkref14_ahead_t1) : codeR rc Try.prog noonmarkref14_ahead_sp n (cr (cr (cr (cr (bodyOf Try.f74))))) noonmarkref14_ahead_an.right.right.right.right (noonmarkref14_ahead_m1 z) (kFin Try.prog noonmarkref14_ahead_rs Try.f74) = noonmarkref14_ahead_p1 n z := by kernel_rfl
theorem noonmarkref14_ahead_q1 (n : Nat) (z : noonmarkref14_ahead_t1) : codeK Try.prog noonmarkref14_ahead_sp n (cr (cr (cr (cr (bodyOf Try.f74))))) noonmarkref14_ahead_an.right.right.right.right (noonmarkref14_ahead_m1 z) (kFin Try.prog noonmarkref14_ahead_rs Try.f74) = noonmarkref14_ahead_s1 n z := by
  rw [codeK_R, noonmarkref14_ahead_e1]
  rfl
def noonmarkref14_ahead_p3 (n : Nat) (k1 : noonmarkref14_ahead_t1 → Option (Int × Unit)) (r3 : noonmarkref14_ahead_t3 → Option (Int × Unit)) (z : noonmarkref14_ahead_t3) : Option (Int × Unit) :=
  ((noonmarkref14_least n (z.1, ()))).bind fun v6 =>
  bif (decide (z.2 ≥ v6.1)) then
    ((noonmarkref14_year n (z.1, (z.2, ())))).bind fun v7 =>
    bif (decide ((List.length v7.1 : Int) > 0)) then
      let t8 := w64 ((List.length v7.1 : Int) - 1)
      bif decide (0 ≤ t8 ∧ t8 < (List.length v7.1 : Int)) then
        ((v7.1[(Int.toNat t8)]?)).bind fun e10 =>
        bif decide (0 ≤ e10.1) then
          ((z.1[Int.toNat e10.1]?)).bind fun e11 =>
          some (e11.2.2.2.2.2.2.1, ())
        else none
      else none
    else
      r3 (z.1, (w64 (z.2 - 1)))
  else
    k1 ()
def noonmarkref14_ahead_s3 (n : Nat) (k1 : noonmarkref14_ahead_t1 → Option (Int × Unit)) (r3 : noonmarkref14_ahead_t3 → Option (Int × Unit)) (z : noonmarkref14_ahead_t3) : Option (Int × Unit) := noonmarkref14_ahead_p3 n k1 r3 z
theorem noonmarkref14_ahead_e3 (n : Nat) (k1 : St → Option (Int × Unit)) (r3 : St → Option (Int × Unit)) (rc : Code → An → St → (Ex → St → Option (Int × Unit)) → Option (Int × Unit)) (z : noonmarkref14_ahead_t3) : codeR rc Try.prog noonmarkref14_ahead_sp n (cl (cl (cr (cl (cr (cr (cr (bodyOf Try.f74)))))))) noonmarkref14_ahead_an.right.right.right.left.right.left.left (noonmarkref14_ahead_m3 z) (kSeq r3 noonmarkref14_ahead_an.right.right.right.left.right.left (kBlk 0 (kSeq k1 noonmarkref14_ahead_an.right.right.right (kFin Try.prog noonmarkref14_ahead_rs Try.f74)))) = noonmarkref14_ahead_p3 n (fun y => k1 (noonmarkref14_ahead_m1 y)) (fun y => r3 (noonmarkref14_ahead_m3 y)) z := by kernel_rfl
theorem noonmarkref14_ahead_q3 (n : Nat) (k1 : St → Option (Int × Unit)) (r3 : St → Option (Int × Unit)) (z : noonmarkref14_ahead_t3) : codeK Try.prog noonmarkref14_ahead_sp n (cl (cl (cr (cl (cr (cr (cr (bodyOf Try.f74)))))))) noonmarkref14_ahead_an.right.right.right.left.right.left.left (noonmarkref14_ahead_m3 z) (kSeq r3 noonmarkref14_ahead_an.right.right.right.left.right.left (kBlk 0 (kSeq k1 noonmarkref14_ahead_an.right.right.right (kFin Try.prog noonmarkref14_ahead_rs Try.f74)))) = noonmarkref14_ahead_s3 n (fun y => k1 (noonmarkref14_ahead_m1 y)) (fun y => r3 (noonmarkref14_ahead_m3 y)) z := by
  rw [codeK_R, noonmarkref14_ahead_e3]
  rfl
def noonmarkref14_ahead_s2 (n : Nat) (k1 : noonmarkref14_ahead_t1 → Option (Int × Unit)) (z : noonmarkref14_ahead_t2) : Option (Int × Unit) :=
  rounds (fun r3 x' => noonmarkref14_ahead_s3 n k1 r3 x') n (z.1, z.2)
theorem noonmarkref14_ahead_q2 (n : Nat) (k1 : St → Option (Int × Unit)) (z : noonmarkref14_ahead_t2) : codeK Try.prog noonmarkref14_ahead_sp n (cr (cl (cr (cr (cr (bodyOf Try.f74)))))) noonmarkref14_ahead_an.right.right.right.left.right (noonmarkref14_ahead_m2 z) (kSeq k1 noonmarkref14_ahead_an.right.right.right (kFin Try.prog noonmarkref14_ahead_rs Try.f74)) = noonmarkref14_ahead_s2 n (fun y => k1 (noonmarkref14_ahead_m1 y)) z :=
  Eq.trans (b := rounds (fun r3 st => codeK Try.prog noonmarkref14_ahead_sp n (cl (cl (cr (cl (cr (cr (cr (bodyOf Try.f74)))))))) noonmarkref14_ahead_an.right.right.right.left.right.left.left st (kSeq r3 noonmarkref14_ahead_an.right.right.right.left.right.left (kBlk 0 (kSeq k1 noonmarkref14_ahead_an.right.right.right (kFin Try.prog noonmarkref14_ahead_rs Try.f74))))) n (noonmarkref14_ahead_m3 (z.1, z.2))) (by kernel_rfl) (rounds_mk noonmarkref14_ahead_m3 (fun r3 x' => by
    have := (noonmarkref14_ahead_q3 n k1 r3 x')
    exact this) n _)
def noonmarkref14_ahead_p0 (_n : Nat) (k1 : noonmarkref14_ahead_t1 → Option (Int × Unit)) (k2 : noonmarkref14_ahead_t2 → Option (Int × Unit)) (z : noonmarkref14_ahead_t0) : Option (Int × Unit) :=
  k2 (z.1, (imin (w64 (z.2 - 1)) (9999 : Int)))
def noonmarkref14_ahead_s0 (n : Nat) (z : noonmarkref14_ahead_t0) : Option (Int × Unit) := noonmarkref14_ahead_p0 n (noonmarkref14_ahead_s1 n) (noonmarkref14_ahead_s2 n (noonmarkref14_ahead_s1 n)) z
theorem noonmarkref14_ahead_e0 (n : Nat) (rc : Code → An → St → (Ex → St → Option (Int × Unit)) → Option (Int × Unit)) (z : noonmarkref14_ahead_t0) : codeR rc Try.prog noonmarkref14_ahead_sp n (cr (cr (cr (bodyOf Try.f74)))) noonmarkref14_ahead_an.right.right.right (noonmarkref14_ahead_m0 z) (kFin Try.prog noonmarkref14_ahead_rs Try.f74) = noonmarkref14_ahead_p0 n (fun y => rc (cr (cr (cr (cr (bodyOf Try.f74))))) noonmarkref14_ahead_an.right.right.right.right (noonmarkref14_ahead_m1 y) (kFin Try.prog noonmarkref14_ahead_rs Try.f74)) (fun y => rc (cr (cl (cr (cr (cr (bodyOf Try.f74)))))) noonmarkref14_ahead_an.right.right.right.left.right (noonmarkref14_ahead_m2 y) (kSeq (fun st => rc (cr (cr (cr (cr (bodyOf Try.f74))))) noonmarkref14_ahead_an.right.right.right.right st (kFin Try.prog noonmarkref14_ahead_rs Try.f74)) noonmarkref14_ahead_an.right.right.right (kFin Try.prog noonmarkref14_ahead_rs Try.f74))) z := by kernel_rfl
theorem noonmarkref14_ahead_q0 (n : Nat) (z : noonmarkref14_ahead_t0) : codeK Try.prog noonmarkref14_ahead_sp n (cr (cr (cr (bodyOf Try.f74)))) noonmarkref14_ahead_an.right.right.right (noonmarkref14_ahead_m0 z) (kFin Try.prog noonmarkref14_ahead_rs Try.f74) = noonmarkref14_ahead_s0 n z := by
  have h1 : (fun y => codeK Try.prog noonmarkref14_ahead_sp n (cr (cr (cr (cr (bodyOf Try.f74))))) noonmarkref14_ahead_an.right.right.right.right (noonmarkref14_ahead_m1 y) (kFin Try.prog noonmarkref14_ahead_rs Try.f74)) = (noonmarkref14_ahead_s1 n) := funext fun y => by
    have := noonmarkref14_ahead_q1 n  y
    exact this
  have h2 : (fun y => codeK Try.prog noonmarkref14_ahead_sp n (cr (cl (cr (cr (cr (bodyOf Try.f74)))))) noonmarkref14_ahead_an.right.right.right.left.right (noonmarkref14_ahead_m2 y) (kSeq (fun st => codeK Try.prog noonmarkref14_ahead_sp n (cr (cr (cr (cr (bodyOf Try.f74))))) noonmarkref14_ahead_an.right.right.right.right st (kFin Try.prog noonmarkref14_ahead_rs Try.f74)) noonmarkref14_ahead_an.right.right.right (kFin Try.prog noonmarkref14_ahead_rs Try.f74))) = (noonmarkref14_ahead_s2 n (noonmarkref14_ahead_s1 n)) := funext fun y => by
    have := noonmarkref14_ahead_q2 n (fun st => codeK Try.prog noonmarkref14_ahead_sp n (cr (cr (cr (cr (bodyOf Try.f74))))) noonmarkref14_ahead_an.right.right.right.right st (kFin Try.prog noonmarkref14_ahead_rs Try.f74)) y
    rw [h1] at this; exact this
  rw [codeK_R, noonmarkref14_ahead_e0]
  rw [h1]
  rw [h2]
  rfl
def noonmarkref14_ahead_px (n : Nat) (k0 : noonmarkref14_ahead_t0 → Option (Int × Unit)) (x : ((List D_api_Rule) × (Int × Unit))) : Option (Int × Unit) :=
  ((noonmarkref14_Span n (x.1, ()))).bind fun v1 =>
  bif (!v1.2.2.1) then
    k0 (x.1, (imin x.2.1 (w64 (v1.2.1 + 1))))
  else
    k0 (x.1, x.2.1)
def noonmarkref14_ahead (n : Nat) (x : ((List D_api_Rule) × (Int × Unit))) : Option (Int × Unit) := noonmarkref14_ahead_px n (noonmarkref14_ahead_s0 n) x
theorem noonmarkref14_ahead_ex (n : Nat) (rc : Code → An → St → (Ex → St → Option (Int × Unit)) → Option (Int × Unit)) (x : ((List D_api_Rule) × (Int × Unit))) : codeR rc Try.prog noonmarkref14_ahead_sp n (bodyOf Try.f74) noonmarkref14_ahead_an (start noonmarkref14_ahead_ps x (Func.ntmps Try.f74)) (kFin Try.prog noonmarkref14_ahead_rs Try.f74) = noonmarkref14_ahead_px n (fun y => rc (cr (cr (cr (bodyOf Try.f74)))) noonmarkref14_ahead_an.right.right.right (noonmarkref14_ahead_m0 y) (kFin Try.prog noonmarkref14_ahead_rs Try.f74)) x := by kernel_rfl
theorem noonmarkref14_ahead_qx (n : Nat) (x : ((List D_api_Rule) × (Int × Unit))) : codeK Try.prog noonmarkref14_ahead_sp n (bodyOf Try.f74) noonmarkref14_ahead_an (start noonmarkref14_ahead_ps x (Func.ntmps Try.f74)) (kFin Try.prog noonmarkref14_ahead_rs Try.f74) = noonmarkref14_ahead n x := by
  have h0 : (fun y => codeK Try.prog noonmarkref14_ahead_sp n (cr (cr (cr (bodyOf Try.f74)))) noonmarkref14_ahead_an.right.right.right (noonmarkref14_ahead_m0 y) (kFin Try.prog noonmarkref14_ahead_rs Try.f74)) = (noonmarkref14_ahead_s0 n) := funext fun y => by
    have := noonmarkref14_ahead_q0 n  y
    exact this
  rw [codeK_R, noonmarkref14_ahead_ex]
  rw [h0]
  rfl
def noonmarkref14_ahead_spec : Sp := ⟨noonmarkref14_ahead_ps, noonmarkref14_ahead_rs, noonmarkref14_ahead⟩
theorem noonmarkref14_ahead_ok : SoundX Try.prog CX 74 (.f noonmarkref14_ahead_spec) := sound_of (look_cons noonmarkref14_Span_ok (look_cons noonmarkref14_year_ok (look_cons noonmarkref14_least_ok look_nil))) Try.func74 (by kernel_rfl) rfl noonmarkref14_ahead_an noonmarkref14_ahead_spec rfl rfl noonmarkref14_ahead_qx

/-! ### noonmark/noonmarkref14.From -/
abbrev noonmarkref14_From_ps : Ty := (.pair (.list T_api_Rule) T_api_At)
abbrev noonmarkref14_From_rs : Ty := (.pair (.list T_expand_Fire) .unit)
abbrev noonmarkref14_From_rr : Ty := .unit
def noonmarkref14_From_sp : Specs := look [(64, .o noonmarkref14_year_spec), (74, .f noonmarkref14_ahead_spec), (75, .f noonmarkref14_least_spec)]
def noonmarkref14_From_an : An := (.s .o (.s .o (.s .o (.s .o (.s .o (.k [] [8] 1 (.k [] [0,2,7,8,9] 0 .o (.b (.l [(8, (.sl 0 T_expand_Fire), 90)] [0,2,7,8,9] 1 (.s .o (.k [] [0,2,7,8,9] 1 (.b (.s .o (.k [] [0,2,7,8,9,10] 2 (.k [] [0,2,7,8,9,10,11] 2 .o (.b (.l [] [0,2,7,8,9,10,11] 2 .o))) .o))) .o))))) .o))))))
abbrev noonmarkref14_From_t0 := (List D_expand_Fire)
def noonmarkref14_From_m0 (z : noonmarkref14_From_t0) : St := ⟨[.junk, .junk, .junk, .junk, .junk, .junk, .junk, .junk, .v ⟨(.sl 0 T_expand_Fire), ()⟩, .junk, .junk, .junk, .junk, .junk, .junk, .junk, .junk, .junk, .junk, .junk, .junk, .junk, .junk, .junk, .junk, .junk, .junk, .junk, .junk, .junk, .junk, .junk, .junk, .junk, .junk, .junk, .junk, .junk, .junk, .junk, .junk, .junk, .junk, .junk, .junk, .junk, .junk, .junk, .junk, .junk, .junk, .junk, .junk, .junk, .junk], [some (.arr 90 T_expand_Fire z)]⟩
abbrev noonmarkref14_From_t1 := (List D_api_Rule) × Int × Int × Int
def noonmarkref14_From_m1 (z : noonmarkref14_From_t1) : St := ⟨[.v ⟨(.list T_api_Rule), z.1⟩, .junk, .v ⟨(.int .i64), z.2.1⟩, .junk, .junk, .junk, .junk, .v ⟨(.int .i64), z.2.2.1⟩, .v ⟨(.nl T_expand_Fire), ()⟩, .v ⟨(.int .i64), z.2.2.2⟩, .junk, .junk, .junk, .junk, .junk, .junk, .junk, .junk, .junk, .junk, .junk, .junk, .junk, .junk, .junk, .junk, .junk, .junk, .junk, .junk, .junk, .junk, .junk, .junk, .junk, .junk, .junk, .junk, .junk, .junk, .junk, .junk, .junk, .junk, .junk, .junk, .junk, .junk, .junk, .junk, .junk, .junk, .junk, .junk, .junk], []⟩
abbrev noonmarkref14_From_t2 := (List D_api_Rule) × Int × Int × Int × (List D_expand_Fire)
def noonmarkref14_From_m2 (z : noonmarkref14_From_t2) : St := ⟨[.v ⟨(.list T_api_Rule), z.1⟩, .junk, .v ⟨(.int .i64), z.2.1⟩, .junk, .junk, .junk, .junk, .v ⟨(.int .i64), z.2.2.1⟩, .v ⟨(.sl 0 T_expand_Fire), ()⟩, .v ⟨(.int .i64), z.2.2.2.1⟩, .junk, .junk, .junk, .junk, .junk, .junk, .junk, .junk, .junk, .junk, .junk, .junk, .junk, .junk, .junk, .junk, .junk, .junk, .junk, .junk, .junk, .junk, .junk, .junk, .junk, .junk, .junk, .junk, .junk, .junk, .junk, .junk, .junk, .junk, .junk, .junk, .junk, .junk, .junk, .junk, .junk, .junk, .junk, .junk, .junk], [some (.arr 90 T_expand_Fire z.2.2.2.2)]⟩
abbrev noonmarkref14_From_t3 := (List D_api_Rule) × Int × Int × Int × (List D_expand_Fire)
def noonmarkref14_From_m3 (z : noonmarkref14_From_t3) : St := ⟨[.v ⟨(.list T_api_Rule), z.1⟩, .junk, .v ⟨(.int .i64), z.2.1⟩, .junk, .junk, .junk, .junk, .v ⟨(.int .i64), z.2.2.1⟩, .v ⟨(.sl 0 T_expand_Fire), ()⟩, .v ⟨(.int .i64), z.2.2.2.1⟩, .junk, .junk, .junk, .junk, .junk, .junk, .junk, .junk, .junk, .junk, .junk, .junk, .junk, .junk, .junk, .junk, .junk, .junk, .junk, .junk, .junk, .junk, .junk, .junk, .junk, .junk, .junk, .junk, .junk, .junk, .junk, .junk, .junk, .junk, .junk, .junk, .junk, .junk, .junk, .junk, .junk, .junk, .junk, .junk, .junk], [some (.arr 90 T_expand_Fire z.2.2.2.2)]⟩
abbrev noonmarkref14_From_t4 := (List D_api_Rule) × Int × Int × Int × (List D_expand_Fire) × (List D_expand_Fire)
def noonmarkref14_From_m4 (z : noonmarkref14_From_t4) : St := ⟨[.v ⟨(.list T_api_Rule), z.1⟩, .junk, .v ⟨(.int .i64), z.2.1⟩, .junk, .junk, .junk, .junk, .v ⟨(.int .i64), z.2.2.1⟩, .v ⟨(.sl 0 T_expand_Fire), ()⟩, .v ⟨(.int .i64), z.2.2.2.1⟩, .v ⟨(.sl 1 T_expand_Fire), ()⟩, .junk, .junk, .junk, .junk, .junk, .junk, .junk, .junk, .junk, .junk, .junk, .junk, .junk, .junk, .junk, .junk, .junk, .junk, .junk, .junk, .junk, .junk, .junk, .junk, .junk, .junk, .junk, .junk, .junk, .junk, .junk, .junk, .junk, .junk, .junk, .junk, .junk, .junk, .junk, .junk, .junk, .junk, .junk, .junk], [some (.arr 90 T_expand_Fire z.2.2.2.2.1), some (.arr 90 T_expand_Fire z.2.2.2.2.2)]⟩
abbrev noonmarkref14_From_t5 := (List D_api_Rule) × Int × Int × Int × Int × (List D_expand_Fire) × (List D_expand_Fire)
def noonmarkref14_From_m5 (z : noonmarkref14_From_t5) : St := ⟨[.v ⟨(.list T_api_Rule), z.1⟩, .junk, .v ⟨(.int .i64), z.2.1⟩, .junk, .junk, .junk, .junk, .v ⟨(.int .i64), z.2.2.1⟩, .v ⟨(.sl 0 T_expand_Fire), ()⟩, .v ⟨(.int .i64), z.2.2.2.1⟩, .v ⟨(.sl 1 T_expand_Fire), ()⟩, .v ⟨(.int .i64), z.2.2.2.2.1⟩, .junk, .junk, .junk, .junk, .junk, .junk, .junk, .junk, .junk, .junk, .junk, .junk, .junk, .junk, .junk, .junk, .junk, .junk, .junk, .junk, .junk, .junk, .junk, .junk, .junk, .junk, .junk, .junk, .junk, .junk, .junk, .junk, .junk, .junk, .junk, .junk, .junk, .junk, .junk, .junk, .junk, .junk, .junk], [some (.arr 90 T_expand_Fire z.2.2.2.2.2.1), some (.arr 90 T_expand_Fire z.2.2.2.2.2.2)]⟩
abbrev noonmarkref14_From_t6 := (List D_api_Rule) × Int × Int × Int × Int × (List D_expand_Fire) × (List D_expand_Fire)
def noonmarkref14_From_m6 (z : noonmarkref14_From_t6) : St := ⟨[.v ⟨(.list T_api_Rule), z.1⟩, .junk, .v ⟨(.int .i64), z.2.1⟩, .junk, .junk, .junk, .junk, .v ⟨(.int .i64), z.2.2.1⟩, .v ⟨(.sl 0 T_expand_Fire), ()⟩, .v ⟨(.int .i64), z.2.2.2.1⟩, .v ⟨(.sl 1 T_expand_Fire), ()⟩, .v ⟨(.int .i64), z.2.2.2.2.1⟩, .junk, .junk, .junk, .junk, .junk, .junk, .junk, .junk, .junk, .junk, .junk, .junk, .junk, .junk, .junk, .junk, .junk, .junk, .junk, .junk, .junk, .junk, .junk, .junk, .junk, .junk, .junk, .junk, .junk, .junk, .junk, .junk, .junk, .junk, .junk, .junk, .junk, .junk, .junk, .junk, .junk, .junk, .junk], [some (.arr 90 T_expand_Fire z.2.2.2.2.2.1), some (.arr 90 T_expand_Fire z.2.2.2.2.2.2)]⟩
def noonmarkref14_From_p0 (_n : Nat) (z : noonmarkref14_From_t0) : Option ((List D_expand_Fire) × Unit) :=
  some (z, ())
def noonmarkref14_From_s0 (n : Nat) (z : noonmarkref14_From_t0) : Option ((List D_expand_Fire) × Unit) := noonmarkref14_From_p0 n z
theorem noonmarkref14_From_e0 (n : Nat) (rc : Code → An → St → (Ex → St → Option ((List D_expand_Fire) × Unit)) → Option ((List D_expand_Fire) × Unit)) (z : noonmarkref14_From_t0) : codeR rc Try.prog noonmarkref14_From_sp n (cr (cr (cr (cr (cr (cr (bodyOf Try.f63))))))) noonmarkref14_From_an.right.right.right.right.right.right (noonmarkref14_From_m0 z) (kFinO Try.prog 90 T_expand_Fire noonmarkref14_From_rr Try.f63) = noonmarkref14_From_p0 n z := by kernel_rfl
theorem noonmarkref14_From_q0 (n : Nat) (z : noonmarkref14_From_t0) : codeK Try.prog noonmarkref14_From_sp n (cr (cr (cr (cr (cr (cr (bodyOf Try.f63))))))) noonmarkref14_From_an.right.right.right.right.right.right (noonmarkref14_From_m0 z) (kFinO Try.prog 90 T_expand_Fire noonmarkref14_From_rr Try.f63) = noonmarkref14_From_s0 n z := by
  rw [codeK_R, noonmarkref14_From_e0]
  rfl
def noonmarkref14_From_p3 (_n : Nat) (_k0 : noonmarkref14_From_t0 → Option ((List D_expand_Fire) × Unit)) (r2 : noonmarkref14_From_t2 → Option ((List D_expand_Fire) × Unit)) (z : noonmarkref14_From_t3) : Option ((List D_expand_Fire) × Unit) :=
  r2 (z.1, z.2.1, z.2.2.1, (w64 (z.2.2.2.1 + 1)), z.2.2.2.2)
def noonmarkref14_From_s3 (n : Nat) (k0 : noonmarkref14_From_t0 → Option ((List D_expand_Fire) × Unit)) (r2 : noonmarkref14_From_t2 → Option ((List D_expand_Fire) × Unit)) (z : noonmarkref14_From_t3) : Option ((List D_expand_Fire) × Unit) := noonmarkref14_From_p3 n k0 r2 z
theorem noonmarkref14_From_e3 (n : Nat) (k0 : St → Option ((List D_expand_Fire) × Unit)) (r2 : St → Option ((List D_expand_Fire) × Unit)) (rc : Code → An → St → (Ex → St → Option ((List D_expand_Fire) × Unit)) → Option ((List D_expand_Fire) × Unit)) (z : noonmarkref14_From_t3) : codeR rc Try.prog noonmarkref14_From_sp n (cr (cr (cl (cl (cr (cl (cr (cr (cr (cr (cr (bodyOf Try.f63)))))))))))) noonmarkref14_From_an.right.right.right.right.right.left.right.left.left.right.right (noonmarkref14_From_m3 z) (kSeq r2 noonmarkref14_From_an.right.right.right.right.right.left.right.left (kBlk 0 (kSeq k0 noonmarkref14_From_an.right.right.right.right.right (kFinO Try.prog 90 T_expand_Fire noonmarkref14_From_rr Try.f63)))) = noonmarkref14_From_p3 n (fun y => k0 (noonmarkref14_From_m0 y)) (fun y => r2 (noonmarkref14_From_m2 y)) z := by kernel_rfl
theorem noonmarkref14_From_q3 (n : Nat) (k0 : St → Option ((List D_expand_Fire) × Unit)) (r2 : St → Option ((List D_expand_Fire) × Unit)) (z : noonmarkref14_From_t3) : codeK Try.prog noonmarkref14_From_sp n (cr (cr (cl (cl (cr (cl (cr (cr (cr (cr (cr (bodyOf Try.f63)))))))))))) noonmarkref14_From_an.right.right.right.right.right.left.right.left.left.right.right (noonmarkref14_From_m3 z) (kSeq r2 noonmarkref14_From_an.right.right.right.right.right.left.right.left (kBlk 0 (kSeq k0 noonmarkref14_From_an.right.right.right.right.right (kFinO Try.prog 90 T_expand_Fire noonmarkref14_From_rr Try.f63)))) = noonmarkref14_From_s3 n (fun y => k0 (noonmarkref14_From_m0 y)) (fun y => r2 (noonmarkref14_From_m2 y)) z := by
  rw [codeK_R, noonmarkref14_From_e3]
  rfl
def noonmarkref14_From_p4 (_n : Nat) (_k0 : noonmarkref14_From_t0 → Option ((List D_expand_Fire) × Unit)) (_r2 : noonmarkref14_From_t2 → Option ((List D_expand_Fire) × Unit)) (k3 : noonmarkref14_From_t3 → Option ((List D_expand_Fire) × Unit)) (z : noonmarkref14_From_t4) : Option ((List D_expand_Fire) × Unit) :=
  bif decide ((List.length z.2.2.2.2.1 + List.length z.2.2.2.2.2) * (32 + 1) ≤ 140737488355328) then
    k3 (z.1, z.2.1, z.2.2.1, z.2.2.2.1, (z.2.2.2.2.1 ++ z.2.2.2.2.2))
  else none
def noonmarkref14_From_s4 (n : Nat) (k0 : noonmarkref14_From_t0 → Option ((List D_expand_Fire) × Unit)) (r2 : noonmarkref14_From_t2 → Option ((List D_expand_Fire) × Unit)) (k3 : noonmarkref14_From_t3 → Option ((List D_expand_Fire) × Unit)) (z : noonmarkref14_From_t4) : Option ((List D_expand_Fire) × Unit) := noonmarkref14_From_p4 n k0 r2 k3 z
theorem noonmarkref14_From_e4 (n : Nat) (k0 : St → Option ((List D_expand_Fire) × Unit)) (r2 : St → Option ((List D_expand_Fire) × Unit)) (k3 : St → Option ((List D_expand_Fire) × Unit)) (rc : Code → An → St → (Ex → St → Option ((List D_expand_Fire) × Unit)) → Option ((List D_expand_Fire) × Unit)) (z : noonmarkref14_From_t4) : codeR rc Try.prog noonmarkref14_From_sp n (cr (cr (cl (cl (cr (cl (cl (cr (cl (cr (cr (cr (cr (cr (bodyOf Try.f63))))))))))))))) noonmarkref14_From_an.right.right.right.right.right.left.right.left.left.right.left.left.right.right (noonmarkref14_From_m4 z) (kBlk 1 (kSeq k3 noonmarkref14_From_an.right.right.right.right.right.left.right.left.left.right (kSeq r2 noonmarkref14_From_an.right.right.right.right.right.left.right.left (kBlk 0 (kSeq k0 noonmarkref14_From_an.right.right.right.right.right (kFinO Try.prog 90 T_expand_Fire noonmarkref14_From_rr Try.f63)))))) = noonmarkref14_From_p4 n (fun y => k0 (noonmarkref14_From_m0 y)) (fun y => r2 (noonmarkref14_From_m2 y)) (fun y => k3 (noonmarkref14_From_m3 y)) z := by kernel_rfl
theorem noonmarkref14_From_q4 (n : Nat) (k0 : St → Option ((List D_expand_Fire) × Unit)) (r2 : St → Option ((List D_expand_Fire) × Unit)) (k3 : St → Option ((List D_expand_Fire) × Unit)) (z : noonmarkref14_From_t4) : codeK Try.prog noonmarkref14_From_sp n (cr (cr (cl (cl (cr (cl (cl (cr (cl (cr (cr (cr (cr (cr (bodyOf Try.f63))))))))))))))) noonmarkref14_From_an.right.right.right.right.right.left.right.left.left.right.left.left.right.right (noonmarkref14_From_m4 z) (kBlk 1 (kSeq k3 noonmarkref14_From_an.right.right.right.right.right.left.right.left.left.right (kSeq r2 noonmarkref14_From_an.right.right.right.right.right.left.right.left (kBlk 0 (kSeq k0 noonmarkref14_From_an.right.right.right.right.right (kFinO Try.prog 90 T_expand_Fire noonmarkref14_From_rr Try.f63)))))) = noonmarkref14_From_s4 n (fun y => k0 (noonmarkref14_From_m0 y)) (fun y => r2 (noonmarkref14_From_m2 y)) (fun y => k3 (noonmarkref14_From_m3 y)) z := by
  rw [codeK_R, noonmarkref14_From_e4]
  rfl
def noonmarkref14_From_p6 (_n : Nat) (_k0 : noonmarkref14_From_t0 → Option ((List D_expand_Fire) × Unit)) (_r2 : noonmarkref14_From_t2 → Option ((List D_expand_Fire) × Unit)) (_k3 : noonmarkref14_From_t3 → Option ((List D_expand_Fire) × Unit)) (k4 : noonmarkref14_From_t4 → Option ((List D_expand_Fire) × Unit)) (r6 : noonmarkref14_From_t6 → Option ((List D_expand_Fire) × Unit)) (z : noonmarkref14_From_t6) : Option ((List D_expand_Fire) × Unit) :=
  bif (decide (z.2.2.2.2.1 < (List.length z.2.2.2.2.2.2 : Int))) then
    bif decide (0 ≤ z.2.2.2.2.1 ∧ z.2.2.2.2.1 < (List.length z.2.2.2.2.2.2 : Int)) then
      ((z.2.2.2.2.2.2[(Int.toNat z.2.2.2.2.1)]?)).bind fun e8 =>
      let l9 := List.set z.2.2.2.2.2.2 (Int.toNat z.2.2.2.2.1) (e8.1, (e8.2.1, (e8.2.2.1, (z.2.2.1, e8.2.2.2.2))))
      bif decide (0 ≤ z.2.2.2.2.1 ∧ z.2.2.2.2.1 < (List.length l9 : Int)) then
        ((l9[(Int.toNat z.2.2.2.2.1)]?)).bind fun e11 =>
        bif decide (0 ≤ e11.1) then
          ((z.1[Int.toNat e11.1]?)).bind fun e12 =>
          r6 (z.1, z.2.1, e12.2.2.2.2.2.2.1, z.2.2.2.1, (w64 (z.2.2.2.2.1 + 1)), z.2.2.2.2.2.1, l9)
        else none
      else none
    else none
  else
    k4 (z.1, z.2.1, z.2.2.1, z.2.2.2.1, z.2.2.2.2.2.1, z.2.2.2.2.2.2)
def noonmarkref14_From_s6 (n : Nat) (k0 : noonmarkref14_From_t0 → Option ((List D_expand_Fire) × Unit)) (r2 : noonmarkref14_From_t2 → Option ((List D_expand_Fire) × Unit)) (k3 : noonmarkref14_From_t3 → Option ((List D_expand_Fire) × Unit)) (k4 : noonmarkref14_From_t4 → Option ((List D_expand_Fire) × Unit)) (r6 : noonmarkref14_From_t6 → Option ((List D_expand_Fire) × Unit)) (z : noonmarkref14_From_t6) : Option ((List D_expand_Fire) × Unit) := noonmarkref14_From_p6 n k0 r2 k3 k4 r6 z
theorem noonmarkref14_From_e6 (n : Nat) (k0 : St → Option ((List D_expand_Fire) × Unit)) (r2 : St → Option ((List D_expand_Fire) × Unit)) (k3 : St → Option ((List D_expand_Fire) × Unit)) (k4 : St → Option ((List D_expand_Fire) × Unit)) (r6 : St → Option ((List D_expand_Fire) × Unit)) (rc : Code → An → St → (Ex → St → Option ((List D_expand_Fire) × Unit)) → Option ((List D_expand_Fire) × Unit)) (z : noonmarkref14_From_t6) : codeR rc Try.prog noonmarkref14_From_sp n (cl (cl (cr (cl (cr (cl (cl (cr (cl (cl (cr (cl (cr (cr (cr (cr (cr (bodyOf Try.f63)))))))))))))))))) noonmarkref14_From_an.right.right.right.right.right.left.right.left.left.right.left.left.right.left.right.left.left (noonmarkref14_From_m6 z) (kSeq r6 noonmarkref14_From_an.right.right.right.right.right.left.right.left.left.right.left.left.right.left.right.left (kBlk 2 (kSeq k4 noonmarkref14_From_an.right.right.right.right.right.left.right.left.left.right.left.left.right (kBlk 1 (kSeq k3 noonmarkref14_From_an.right.right.right.right.right.left.right.left.left.right (kSeq r2 noonmarkref14_From_an.right.right.right.right.right.left.right.left (kBlk 0 (kSeq k0 noonmarkref14_From_an.right.right.right.right.right (kFinO Try.prog 90 T_expand_Fire noonmarkref14_From_rr Try.f63))))))))) = noonmarkref14_From_p6 n (fun y => k0 (noonmarkref14_From_m0 y)) (fun y => r2 (noonmarkref14_From_m2 y)) (fun y => k3 (noonmarkref14_From_m3 y)) (fun y => k4 (noonmarkref14_From_m4 y)) (fun y => r6 (noonmarkref14_From_m6 y)) z := by kernel_rfl
theorem noonmarkref14_From_q6 (n : Nat) (k0 : St → Option ((List D_expand_Fire) × Unit)) (r2 : St → Option ((List D_expand_Fire) × Unit)) (k3 : St → Option ((List D_expand_Fire) × Unit)) (k4 : St → Option ((List D_expand_Fire) × Unit)) (r6 : St → Option ((List D_expand_Fire) × Unit)) (z : noonmarkref14_From_t6) : codeK Try.prog noonmarkref14_From_sp n (cl (cl (cr (cl (cr (cl (cl (cr (cl (cl (cr (cl (cr (cr (cr (cr (cr (bodyOf Try.f63)))))))))))))))))) noonmarkref14_From_an.right.right.right.right.right.left.right.left.left.right.left.left.right.left.right.left.left (noonmarkref14_From_m6 z) (kSeq r6 noonmarkref14_From_an.right.right.right.right.right.left.right.left.left.right.left.left.right.left.right.left (kBlk 2 (kSeq k4 noonmarkref14_From_an.right.right.right.right.right.left.right.left.left.right.left.left.right (kBlk 1 (kSeq k3 noonmarkref14_From_an.right.right.right.right.right.left.right.left.left.right (kSeq r2 noonmarkref14_From_an.right.right.right.right.right.left.right.left (kBlk 0 (kSeq k0 noonmarkref14_From_an.right.right.right.right.right (kFinO Try.prog 90 T_expand_Fire noonmarkref14_From_rr Try.f63))))))))) = noonmarkref14_From_s6 n (fun y => k0 (noonmarkref14_From_m0 y)) (fun y => r2 (noonmarkref14_From_m2 y)) (fun y => k3 (noonmarkref14_From_m3 y)) (fun y => k4 (noonmarkref14_From_m4 y)) (fun y => r6 (noonmarkref14_From_m6 y)) z := by
  rw [codeK_R, noonmarkref14_From_e6]
  rfl
def noonmarkref14_From_s5 (n : Nat) (k0 : noonmarkref14_From_t0 → Option ((List D_expand_Fire) × Unit)) (r2 : noonmarkref14_From_t2 → Option ((List D_expand_Fire) × Unit)) (k3 : noonmarkref14_From_t3 → Option ((List D_expand_Fire) × Unit)) (k4 : noonmarkref14_From_t4 → Option ((List D_expand_Fire) × Unit)) (z : noonmarkref14_From_t5) : Option ((List D_expand_Fire) × Unit) :=
  rounds (fun r6 x' => noonmarkref14_From_s6 n k0 r2 k3 k4 r6 x') n (z.1, z.2.1, z.2.2.1, z.2.2.2.1, z.2.2.2.2.1, z.2.2.2.2.2.1, z.2.2.2.2.2.2)
theorem noonmarkref14_From_q5 (n : Nat) (k0 : St → Option ((List D_expand_Fire) × Unit)) (r2 : St → Option ((List D_expand_Fire) × Unit)) (k3 : St → Option ((List D_expand_Fire) × Unit)) (k4 : St → Option ((List D_expand_Fire) × Unit)) (z : noonmarkref14_From_t5) : codeK Try.prog noonmarkref14_From_sp n (cr (cl (cr (cl (cl (cr (cl (cl (cr (cl (cr (cr (cr (cr (cr (bodyOf Try.f63)))))))))))))))) noonmarkref14_From_an.right.right.right.right.right.left.right.left.left.right.left.left.right.left.right (noonmarkref14_From_m5 z) (kSeq k4 noonmarkref14_From_an.right.right.right.right.right.left.right.left.left.right.left.left.right (kBlk 1 (kSeq k3 noonmarkref14_From_an.right.right.right.right.right.left.right.left.left.right (kSeq r2 noonmarkref14_From_an.right.right.right.right.right.left.right.left (kBlk 0 (kSeq k0 noonmarkref14_From_an.right.right.right.right.right (kFinO Try.prog 90 T_expand_Fire noonmarkref14_From_rr Try.f63))))))) = noonmarkref14_From_s5 n (fun y => k0 (noonmarkref14_From_m0 y)) (fun y => r2 (noonmarkref14_From_m2 y)) (fun y => k3 (noonmarkref14_From_m3 y)) (fun y => k4 (noonmarkref14_From_m4 y)) z :=
  Eq.trans (b := rounds (fun r6 st => codeK Try.prog noonmarkref14_From_sp n (cl (cl (cr (cl (cr (cl (cl (cr (cl (cl (cr (cl (cr (cr (cr (cr (cr (bodyOf Try.f63)))))))))))))))))) noonmarkref14_From_an.right.right.right.right.right.left.right.left.left.right.left.left.right.left.right.left.left st (kSeq r6 noonmarkref14_From_an.right.right.right.right.right.left.right.left.left.right.left.left.right.left.right.left (kBlk 2 (kSeq k4 noonmarkref14_From_an.right.right.right.right.right.left.right.left.left.right.left.left.right (kBlk 1 (kSeq k3 noonmarkref14_From_an.right.right.right.right.right.left.right.left.left.right (kSeq r2 noonmarkref14_From_an.right.right.right.right.right.left.right.left (kBlk 0 (kSeq k0 noonmarkref14_From_an.right.right.right.right.right (kFinO Try.prog 90 T_expand_Fire noonmarkref14_From_rr Try.f63)))))))))) n (noonmarkref14_From_m6 (z.1, z.2.1, z.2.2.1, z.2.2.2.1, z.2.2.2.2.1, z.2.2.2.2.2.1, z.2.2.2.2.2.2))) (by kernel_rfl) (rounds_mk noonmarkref14_From_m6 (fun r6 x' => by
    have := (noonmarkref14_From_q6 n k0 r2 k3 k4 r6 x')
    exact this) n _)
def noonmarkref14_From_p2 (n : Nat) (k0 : noonmarkref14_From_t0 → Option ((List D_expand_Fire) × Unit)) (_r2 : noonmarkref14_From_t2 → Option ((List D_expand_Fire) × Unit)) (k3 : noonmarkref14_From_t3 → Option ((List D_expand_Fire) × Unit)) (k4 : noonmarkref14_From_t4 → Option ((List D_expand_Fire) × Unit)) (k5 : noonmarkref14_From_t5 → Option ((List D_expand_Fire) × Unit)) (z : noonmarkref14_From_t2) : Option ((List D_expand_Fire) × Unit) :=
  bif (decide (z.2.2.2.1 ≤ z.2.1)) then
    ((noonmarkref14_year n (z.1, (z.2.2.2.1, ())))).bind fun v6 =>
    k5 (z.1, z.2.1, z.2.2.1, z.2.2.2.1, (0 : Int), z.2.2.2.2, v6.1)
  else
    k0 z.2.2.2.2
def noonmarkref14_From_s2 (n : Nat) (k0 : noonmarkref14_From_t0 → Option ((List D_expand_Fire) × Unit)) (r2 : noonmarkref14_From_t2 → Option ((List D_expand_Fire) × Unit)) (z : noonmarkref14_From_t2) : Option ((List D_expand_Fire) × Unit) := noonmarkref14_From_p2 n k0 r2 (noonmarkref14_From_s3 n k0 r2) (noonmarkref14_From_s4 n k0 r2 (noonmarkref14_From_s3 n k0 r2)) (noonmarkref14_From_s5 n k0 r2 (noonmarkref14_From_s3 n k0 r2) (noonmarkref14_From_s4 n k0 r2 (noonmarkref14_From_s3 n k0 r2))) z
theorem noonmarkref14_From_e2 (n : Nat) (k0 : St → Option ((List D_expand_Fire) × Unit)) (r2 : St → Option ((List D_expand_Fire) × Unit)) (rc : Code → An → St → (Ex → St → Option ((List D_expand_Fire) × Unit)) → Option ((List D_expand_Fire) × Unit)) (z : noonmarkref14_From_t2) : codeR rc Try.prog noonmarkref14_From_sp n (cl (cl (cr (cl (cr (cr (cr (cr (cr (bodyOf Try.f63)))))))))) noonmarkref14_From_an.right.right.right.right.right.left.right.left.left (noonmarkref14_From_m2 z) (kSeq r2 noonmarkref14_From_an.right.right.right.right.right.left.right.left (kBlk 0 (kSeq k0 noonmarkref14_From_an.right.right.right.right.right (kFinO Try.prog 90 T_expand_Fire noonmarkref14_From_rr Try.f63)))) = noonmarkref14_From_p2 n (fun y => k0 (noonmarkref14_From_m0 y)) (fun y => r2 (noonmarkref14_From_m2 y)) (fun y => rc (cr (cr (cl (cl (cr (cl (cr (cr (cr (cr (cr (bodyOf Try.f63)))))))))))) noonmarkref14_From_an.right.right.right.right.right.left.right.left.left.right.right (noonmarkref14_From_m3 y) (kSeq r2 noonmarkref14_From_an.right.right.right.right.right.left.right.left (kBlk 0 (kSeq k0 noonmarkref14_From_an.right.right.right.right.right (kFinO Try.prog 90 T_expand_Fire noonmarkref14_From_rr Try.f63))))) (fun y => rc (cr (cr (cl (cl (cr (cl (cl (cr (cl (cr (cr (cr (cr (cr (bodyOf Try.f63))))))))))))))) noonmarkref14_From_an.right.right.right.right.right.left.right.left.left.right.left.left.right.right (noonmarkref14_From_m4 y) (kBlk 1 (kSeq (fun st => rc (cr (cr (cl (cl (cr (cl (cr (cr (cr (cr (cr (bodyOf Try.f63)))))))))))) noonmarkref14_From_an.right.right.right.right.right.left.right.left.left.right.right st (kSeq r2 noonmarkref14_From_an.right.right.right.right.right.left.right.left (kBlk 0 (kSeq k0 noonmarkref14_From_an.right.right.right.right.right (kFinO Try.prog 90 T_expand_Fire noonmarkref14_From_rr Try.f63))))) noonmarkref14_From_an.right.right.right.right.right.left.right.left.left.right (kSeq r2 noonmarkref14_From_an.right.right.right.right.right.left.right.left (kBlk 0 (kSeq k0 noonmarkref14_From_an.right.right.right.right.right (kFinO Try.prog 90 T_expand_Fire noonmarkref14_From_rr Try.f63))))))) (fun y => rc (cr (cl (cr (cl (cl (cr (cl (cl (cr (cl (cr (cr (cr (cr (cr (bodyOf Try.f63)))))))))))))))) noonmarkref14_From_an.right.right.right.right.right.left.right.left.left.right.left.left.right.left.right (noonmarkref14_From_m5 y) (kSeq (fun st => rc (cr (cr (cl (cl (cr (cl (cl (cr (cl (cr (cr (cr (cr (cr (bodyOf Try.f63))))))))))))))) noonmarkref14_From_an.right.right.right.right.right.left.right.left.left.right.left.left.right.right st (kBlk 1 (kSeq (fun st => rc (cr (cr (cl (cl (cr (cl (cr (cr (cr (cr (cr (bodyOf Try.f63)))))))))))) noonmarkref14_From_an.right.right.right.right.right.left.right.left.left.right.right st (kSeq r2 noonmarkref14_From_an.right.right.right.right.right.left.right.left (kBlk 0 (kSeq k0 noonmarkref14_From_an.right.right.right.right.right (kFinO Try.prog 90 T_expand_Fire noonmarkref14_From_rr Try.f63))))) noonmarkref14_From_an.right.right.right.right.right.left.right.left.left.right (kSeq r2 noonmarkref14_From_an.right.right.right.right.right.left.right.left (kBlk 0 (kSeq k0 noonmarkref14_From_an.right.right.right.right.right (kFinO Try.prog 90 T_expand_Fire noonmarkref14_From_rr Try.f63))))))) noonmarkref14_From_an.right.right.right.right.right.left.right.left.left.right.left.left.right (kBlk 1 (kSeq (fun st => rc (cr (cr (cl (cl (cr (cl (cr (cr (cr (cr (cr (bodyOf Try.f63)))))))))))) noonmarkref14_From_an.right.right.right.right.right.left.right.left.left.right.right st (kSeq r2 noonmarkref14_From_an.right.right.right.right.right.left.right.left (kBlk 0 (kSeq k0 noonmarkref14_From_an.right.right.right.right.right (kFinO Try.prog 90 T_expand_Fire noonmarkref14_From_rr Try.f63))))) noonmarkref14_From_an.right.right.right.right.right.left.right.left.left.right (kSeq r2 noonmarkref14_From_an.right.right.right.right.right.left.right.left (kBlk 0 (kSeq k0 noonmarkref14_From_an.right.right.right.right.right (kFinO Try.prog 90 T_expand_Fire noonmarkref14_From_rr Try.f63)))))))) z := by kernel_rfl
theorem noonmarkref14_From_q2 (n : Nat) (k0 : St → Option ((List D_expand_Fire) × Unit)) (r2 : St → Option ((List D_expand_Fire) × Unit)) (z : noonmarkref14_From_t2) : codeK Try.prog noonmarkref14_From_sp n (cl (cl (cr (cl (cr (cr (cr (cr (cr (bodyOf Try.f63)))))))))) noonmarkref14_From_an.right.right.right.right.right.left.right.left.left (noonmarkref14_From_m2 z) (kSeq r2 noonmarkref14_From_an.right.right.right.right.right.left.right.left (kBlk 0 (kSeq k0 noonmarkref14_From_an.right.right.right.right.right (kFinO Try.prog 90 T_expand_Fire noonmarkref14_From_rr Try.f63)))) = noonmarkref14_From_s2 n (fun y => k0 (noonmarkref14_From_m0 y)) (fun y => r2 (noonmarkref14_From_m2 y)) z := by
  have h3 : (fun y => codeK Try.prog noonmarkref14_From_sp n (cr (cr (cl (cl (cr (cl (cr (cr (cr (cr (cr (bodyOf Try.f63)))))))))))) noonmarkref14_From_an.right.right.right.right.right.left.right.left.left.right.right (noonmarkref14_From_m3 y) (kSeq r2 noonmarkref14_From_an.right.right.right.right.right.left.right.left (kBlk 0 (kSeq k0 noonmarkref14_From_an.right.right.right.right.right (kFinO Try.prog 90 T_expand_Fire noonmarkref14_From_rr Try.f63))))) = (noonmarkref14_From_s3 n (fun y => k0 (noonmarkref14_From_m0 y)) (fun y => r2 (noonmarkref14_From_m2 y))) := funext fun y => by
    have := noonmarkref14_From_q3 n k0 r2 y
    exact this
  have h4 : (fun y => codeK Try.prog noonmarkref14_From_sp n (cr (cr (cl (cl (cr (cl (cl (cr (cl (cr (cr (cr (cr (cr (bodyOf Try.f63))))))))))))))) noonmarkref14_From_an.right.right.right.right.right.left.right.left.left.right.left.left.right.right (noonmarkref14_From_m4 y) (kBlk 1 (kSeq (fun st => codeK Try.prog noonmarkref14_From_sp n (cr (cr (cl (cl (cr (cl (cr (cr (cr (cr (cr (bodyOf Try.f63)))))))))))) noonmarkref14_From_an.right.right.right.right.right.left.right.left.left.right.right st (kSeq r2 noonmarkref14_From_an.right.right.right.right.right.left.right.left (kBlk 0 (kSeq k0 noonmarkref14_From_an.right.right.right.right.right (kFinO Try.prog 90 T_expand_Fire noonmarkref14_From_rr Try.f63))))) noonmarkref14_From_an.right.right.right.right.right.left.right.left.left.right (kSeq r2 noonmarkref14_From_an.right.right.right.right.right.left.right.left (kBlk 0 (kSeq k0 noonmarkref14_From_an.right.right.right.right.right (kFinO Try.prog 90 T_expand_Fire noonmarkref14_From_rr Try.f63))))))) = (noonmarkref14_From_s4 n (fun y => k0 (noonmarkref14_From_m0 y)) (fun y => r2 (noonmarkref14_From_m2 y)) (noonmarkref14_From_s3 n (fun y => k0 (noonmarkref14_From_m0 y)) (fun y => r2 (noonmarkref14_From_m2 y)))) := funext fun y => by
    have := noonmarkref14_From_q4 n k0 r2 (fun st => codeK Try.prog noonmarkref14_From_sp n (cr (cr (cl (cl (cr (cl (cr (cr (cr (cr (cr (bodyOf Try.f63)))))))))))) noonmarkref14_From_an.right.right.right.right.right.left.right.left.left.right.right st (kSeq r2 noonmarkref14_From_an.right.right.right.right.right.left.right.left (kBlk 0 (kSeq k0 noonmarkref14_From_an.right.right.right.right.right (kFinO Try.prog 90 T_expand_Fire noonmarkref14_From_rr Try.f63))))) y
    rw [h3] at this; exact this
  have h5 : (fun y => codeK Try.prog noonmarkref14_From_sp n (cr (cl (cr (cl (cl (cr (cl (cl (cr (cl (cr (cr (cr (cr (cr (bodyOf Try.f63)))))))))))))))) noonmarkref14_From_an.right.right.right.right.right.left.right.left.left.right.left.left.right.left.right (noonmarkref14_From_m5 y) (kSeq (fun st => codeK Try.prog noonmarkref14_From_sp n (cr (cr (cl (cl (cr (cl (cl (cr (cl (cr (cr (cr (cr (cr (bodyOf Try.f63))))))))))))))) noonmarkref14_From_an.right.right.right.right.right.left.right.left.left.right.left.left.right.right st (kBlk 1 (kSeq (fun st => codeK Try.prog noonmarkref14_From_sp n (cr (cr (cl (cl (cr (cl (cr (cr (cr (cr (cr (bodyOf Try.f63)))))))))))) noonmarkref14_From_an.right.right.right.right.right.left.right.left.left.right.right st (kSeq r2 noonmarkref14_From_an.right.right.right.right.right.left.right.left (kBlk 0 (kSeq k0 noonmarkref14_From_an.right.right.right.right.right (kFinO Try.prog 90 T_expand_Fire noonmarkref14_From_rr Try.f63))))) noonmarkref14_From_an.right.right.right.right.right.left.right.left.left.right (kSeq r2 noonmarkref14_From_an.right.right.right.right.right.left.right.left (kBlk 0 (kSeq k0 noonmarkref14_From_an.right.right.right.right.right (kFinO Try.prog 90 T_expand_Fire noonmarkref14_From_rr Try.f63))))))) noonmarkref14_From_an.right.right.right.right.right.left.right.left.left.right.left.left.right (kBlk 1 (kSeq (fun st => codeK Try.prog noonmarkref14_From_sp n (cr (cr (cl (cl (cr (cl (cr (cr (cr (cr (cr (bodyOf Try.f63)))))))))))) noonmarkref14_From_an.right.right.right.right.right.left.right.left.left.right.right st (kSeq r2 noonmarkref14_From_an.right.right.right.right.right.left.right.left (kBlk 0 (kSeq k0 noonmarkref14_From_an.right.right.right.right.right (kFinO Try.prog 90 T_expand_Fire noonmarkref14_From_rr Try.f63))))) noonmarkref14_From_an.right.right.right.right.right.left.right.left.left.right (kSeq r2 noonmarkref14_From_an.right.right.right.right.right.left.right.left (kBlk 0 (kSeq k0 noonmarkref14_From_an.right.right.right.right.right (kFinO Try.prog 90 T_expand_Fire noonmarkref14_From_rr Try.f63)))))))) = (noonmarkref14_From_s5 n (fun y => k0 (noonmarkref14_From_m0 y)) (fun y => r2 (noonmarkref14_From_m2 y)) (noonmarkref14_From_s3 n (fun y => k0 (noonmarkref14_From_m0 y)) (fun y => r2 (noonmarkref14_From_m2 y))) (noonmarkref14_From_s4 n (fun y => k0 (noonmarkref14_From_m0 y)) (fun y => r2 (noonmarkref14_From_m2 y)) (noonmarkref14_From_s3 n (fun y => k0 (noonmarkref14_From_m0 y)) (fun y => r2 (noonmarkref14_From_m2 y))))) := funext fun y => by
    have := noonmarkref14_From_q5 n k0 r2 (fun st => codeK Try.prog noonmarkref14_From_sp n (cr (cr (cl (cl (cr (cl (cr (cr (cr (cr (cr (bodyOf Try.f63)))))))))))) noonmarkref14_From_an.right.right.right.right.right.left.right.left.left.right.right st (kSeq r2 noonmarkref14_From_an.right.right.right.right.right.left.right.left (kBlk 0 (kSeq k0 noonmarkref14_From_an.right.right.right.right.right (kFinO Try.prog 90 T_expand_Fire noonmarkref14_From_rr Try.f63))))) (fun st => codeK Try.prog noonmarkref14_From_sp n (cr (cr (cl (cl (cr (cl (cl (cr (cl (cr (cr (cr (cr (cr (bodyOf Try.f63))))))))))))))) noonmarkref14_From_an.right.right.right.right.right.left.right.left.left.right.left.left.right.right st (kBlk 1 (kSeq (fun st => codeK Try.prog noonmarkref14_From_sp n (cr (cr (cl (cl (cr (cl (cr (cr (cr (cr (cr (bodyOf Try.f63)))))))))))) noonmarkref14_From_an.right.right.right.right.right.left.right.left.left.right.right st (kSeq r2 noonmarkref14_From_an.right.right.right.right.right.left.right.left (kBlk 0 (kSeq k0 noonmarkref14_From_an.right.right.right.right.right (kFinO Try.prog 90 T_expand_Fire noonmarkref14_From_rr Try.f63))))) noonmarkref14_From_an.right.right.right.right.right.left.right.left.left.right (kSeq r2 noonmarkref14_From_an.right.right.right.right.right.left.right.left (kBlk 0 (kSeq k0 noonmarkref14_From_an.right.right.right.right.right (kFinO Try.prog 90 T_expand_Fire noonmarkref14_From_rr Try.f63))))))) y
    rw [h3] at this; rw [h4] at this; exact this
  rw [codeK_R, noonmarkref14_From_e2]
  rw [h3]
  rw [h4]
  rw [h5]
  rfl
def noonmarkref14_From_s1 (n : Nat) (k0 : noonmarkref14_From_t0 → Option ((List D_expand_Fire) × Unit)) (z : noonmarkref14_From_t1) : Option ((List D_expand_Fire) × Unit) :=
  rounds (fun r2 x' => noonmarkref14_From_s2 n k0 r2 x') n (z.1, z.2.1, z.2.2.1, z.2.2.2, ([] : List D_expand_Fire))
theorem noonmarkref14_From_q1 (n : Nat) (k0 : St → Option ((List D_expand_Fire) × Unit)) (z : noonmarkref14_From_t1) : codeK Try.prog noonmarkref14_From_sp n (cr (cl (cr (cr (cr (cr (cr (bodyOf Try.f63)))))))) noonmarkref14_From_an.right.right.right.right.right.left.right (noonmarkref14_From_m1 z) (kSeq k0 noonmarkref14_From_an.right.right.right.right.right (kFinO Try.prog 90 T_expand_Fire noonmarkref14_From_rr Try.f63)) = noonmarkref14_From_s1 n (fun y => k0 (noonmarkref14_From_m0 y)) z :=
  Eq.trans (b := rounds (fun r2 st => codeK Try.prog noonmarkref14_From_sp n (cl (cl (cr (cl (cr (cr (cr (cr (cr (bodyOf Try.f63)))))))))) noonmarkref14_From_an.right.right.right.right.right.left.right.left.left st (kSeq r2 noonmarkref14_From_an.right.right.right.right.right.left.right.left (kBlk 0 (kSeq k0 noonmarkref14_From_an.right.right.right.right.right (kFinO Try.prog 90 T_expand_Fire noonmarkref14_From_rr Try.f63))))) n (noonmarkref14_From_m2 (z.1, z.2.1, z.2.2.1, z.2.2.2, ([] : List D_expand_Fire)))) (by kernel_rfl) (rounds_mk noonmarkref14_From_m2 (fun r2 x' => by
    have := (noonmarkref14_From_q2 n k0 r2 x')
    exact this) n _)
def noonmarkref14_From_px (n : Nat) (k0 : noonmarkref14_From_t0 → Option ((List D_expand_Fire) × Unit)) (k1 : noonmarkref14_From_t1 → Option ((List D_expand_Fire) × Unit)) (x : ((List D_api_Rule) × D_api_At)) : Option ((List D_expand_Fire) × Unit) :=
  let t1 := imax x.2.1 (1 : Int)
  ((noonmarkref14_ahead n (x.1, (t1, ())))).bind fun v3 =>
  ((noonmarkref14_least n (x.1, ()))).bind fun v4 =>
  k1 (x.1, (imin x.2.2.1 (9999 : Int)), v3.1, (imax t1 v4.1))
def noonmarkref14_From (n : Nat) (x : ((List D_api_Rule) × D_api_At)) : Option ((List D_expand_Fire) × Unit) := noonmarkref14_From_px n (noonmarkref14_From_s0 n) (noonmarkref14_From_s1 n (noonmarkref14_From_s0 n)) x
theorem noonmarkref14_From_ex (n : Nat) (rc : Code → An → St → (Ex → St → Option ((List D_expand_Fire) × Unit)) → Option ((List D_expand_Fire) × Unit)) (x : ((List D_api_Rule) × D_api_At)) : codeR rc Try.prog noonmarkref14_From_sp n (bodyOf Try.f63) noonmarkref14_From_an (start noonmarkref14_From_ps x (Func.ntmps Try.f63)) (kFinO Try.prog 90 T_expand_Fire noonmarkref14_From_rr Try.f63) = noonmarkref14_From_px n (fun y => rc (cr (cr (cr (cr (cr (cr (bodyOf Try.f63))))))) noonmarkref14_From_an.right.right.right.right.right.right (noonmarkref14_From_m0 y) (kFinO Try.prog 90 T_expand_Fire noonmarkref14_From_rr Try.f63)) (fun y => rc (cr (cl (cr (cr (cr (cr (cr (bodyOf Try.f63)))))))) noonmarkref14_From_an.right.right.right.right.right.left.right (noonmarkref14_From_m1 y) (kSeq (fun st => rc (cr (cr (cr (cr (cr (cr (bodyOf Try.f63))))))) noonmarkref14_From_an.right.right.right.right.right.right st (kFinO Try.prog 90 T_expand_Fire noonmarkref14_From_rr Try.f63)) noonmarkref14_From_an.right.right.right.right.right (kFinO Try.prog 90 T_expand_Fire noonmarkref14_From_rr Try.f63))) x := by kernel_rfl
theorem noonmarkref14_From_qx (n : Nat) (x : ((List D_api_Rule) × D_api_At)) : codeK Try.prog noonmarkref14_From_sp n (bodyOf Try.f63) noonmarkref14_From_an (start noonmarkref14_From_ps x (Func.ntmps Try.f63)) (kFinO Try.prog 90 T_expand_Fire noonmarkref14_From_rr Try.f63) = noonmarkref14_From n x := by
  have h0 : (fun y => codeK Try.prog noonmarkref14_From_sp n (cr (cr (cr (cr (cr (cr (bodyOf Try.f63))))))) noonmarkref14_From_an.right.right.right.right.right.right (noonmarkref14_From_m0 y) (kFinO Try.prog 90 T_expand_Fire noonmarkref14_From_rr Try.f63)) = (noonmarkref14_From_s0 n) := funext fun y => by
    have := noonmarkref14_From_q0 n  y
    exact this
  have h1 : (fun y => codeK Try.prog noonmarkref14_From_sp n (cr (cl (cr (cr (cr (cr (cr (bodyOf Try.f63)))))))) noonmarkref14_From_an.right.right.right.right.right.left.right (noonmarkref14_From_m1 y) (kSeq (fun st => codeK Try.prog noonmarkref14_From_sp n (cr (cr (cr (cr (cr (cr (bodyOf Try.f63))))))) noonmarkref14_From_an.right.right.right.right.right.right st (kFinO Try.prog 90 T_expand_Fire noonmarkref14_From_rr Try.f63)) noonmarkref14_From_an.right.right.right.right.right (kFinO Try.prog 90 T_expand_Fire noonmarkref14_From_rr Try.f63))) = (noonmarkref14_From_s1 n (noonmarkref14_From_s0 n)) := funext fun y => by
    have := noonmarkref14_From_q1 n (fun st => codeK Try.prog noonmarkref14_From_sp n (cr (cr (cr (cr (cr (cr (bodyOf Try.f63))))))) noonmarkref14_From_an.right.right.right.right.right.right st (kFinO Try.prog 90 T_expand_Fire noonmarkref14_From_rr Try.f63)) y
    rw [h0] at this; exact this
  rw [codeK_R, noonmarkref14_From_ex]
  rw [h0]
  rw [h1]
  rfl
def noonmarkref14_From_spec : SpO := ⟨noonmarkref14_From_ps, 90, T_expand_Fire, noonmarkref14_From_rr, noonmarkref14_From⟩
theorem noonmarkref14_From_ok : SoundX Try.prog CX 63 (.o noonmarkref14_From_spec) := sound_funO (look_cons noonmarkref14_year_ok (look_cons noonmarkref14_ahead_ok (look_cons noonmarkref14_least_ok look_nil))) Try.func63 (by kernel_rfl) rfl noonmarkref14_From_an noonmarkref14_From_spec rfl rfl rfl noonmarkref14_From_qx

/-! ### noonmark/noonmarkref14.Year -/
abbrev noonmarkref14_Year_ps : Ty := (.pair (.list T_api_Rule) (.pair (.int .i64) .unit))
abbrev noonmarkref14_Year_rs : Ty := (.pair (.list T_expand_Fire) .unit)
abbrev noonmarkref14_Year_rr : Ty := .unit
def noonmarkref14_Year_sp : Specs := look [(63, .o noonmarkref14_From_spec)]
def noonmarkref14_Year_an : An := .o
def noonmarkref14_Year_px (n : Nat) (x : ((List D_api_Rule) × (Int × Unit))) : Option ((List D_expand_Fire) × Unit) :=
  ((noonmarkref14_From n (x.1, (x.2.1, (x.2.1, ()))))).bind fun v1 =>
  some (v1.1, ())
def noonmarkref14_Year (n : Nat) (x : ((List D_api_Rule) × (Int × Unit))) : Option ((List D_expand_Fire) × Unit) := noonmarkref14_Year_px n x
theorem noonmarkref14_Year_ex (n : Nat) (rc : Code → An → St → (Ex → St → Option ((List D_expand_Fire) × Unit)) → Option ((List D_expand_Fire) × Unit)) (x : ((List D_api_Rule) × (Int × Unit))) : codeR rc Try.prog noonmarkref14_Year_sp n (bodyOf Try.f44) noonmarkref14_Year_an (start noonmarkref14_Year_ps x (Func.ntmps Try.f44)) (kFinO Try.prog 90 T_expand_Fire noonmarkref14_Year_rr Try.f44) = noonmarkref14_Year_px n x := by kernel_rfl
theorem noonmarkref14_Year_qx (n : Nat) (x : ((List D_api_Rule) × (Int × Unit))) : codeK Try.prog noonmarkref14_Year_sp n (bodyOf Try.f44) noonmarkref14_Year_an (start noonmarkref14_Year_ps x (Func.ntmps Try.f44)) (kFinO Try.prog 90 T_expand_Fire noonmarkref14_Year_rr Try.f44) = noonmarkref14_Year n x := by
  rw [codeK_R, noonmarkref14_Year_ex]
  rfl
def noonmarkref14_Year_spec : SpO := ⟨noonmarkref14_Year_ps, 90, T_expand_Fire, noonmarkref14_Year_rr, noonmarkref14_Year⟩
theorem noonmarkref14_Year_ok : SoundX Try.prog CX 44 (.o noonmarkref14_Year_spec) := sound_funO (look_cons noonmarkref14_From_ok look_nil) Try.func44 (by kernel_rfl) rfl noonmarkref14_Year_an noonmarkref14_Year_spec rfl rfl rfl noonmarkref14_Year_qx

/-! ### noonmark/noonmarkref14.Letter -/
abbrev noonmarkref14_Letter_ps : Ty := (.pair (.list T_api_Rule) .unit)
abbrev noonmarkref14_Letter_rs : Ty := (.pair .str .unit)
def noonmarkref14_Letter_sp : Specs := look [(64, .o noonmarkref14_year_spec), (65, .f noonmarkref14_before_spec)]
def noonmarkref14_Letter_an : An := (.s .o (.s .o (.s .o (.s .o (.k [] [3] 0 (.k [] [0,3,4,5,6] 1 .o (.b (.l [] [0,3,4,5,6] 1 (.s .o (.k [] [0,3,4,5,6] 1 (.b (.s .o (.s .o (.k [] [0,3,4,5,6,7,8] 2 .o (.b (.l [(7, (.list T_api_Rule), 0)] [0,3,4,5,6,7,8] 1 (.s .o (.k [] [0,3,4,5,6,7,8] 1 (.b (.s .o (.s .o (.s .o (.s (.k [] [0,3,4,5,6,9,91] 2 .o .o) .o))))) .o)))))))) .o))))) .o)))))
abbrev noonmarkref14_Letter_t0 := ByteArray
def noonmarkref14_Letter_m0 (z : noonmarkref14_Letter_t0) : St := ⟨[.junk, .junk, .junk, .v ⟨.str, z⟩, .junk, .junk, .junk, .junk, .junk, .junk, .junk, .junk, .junk, .junk, .junk, .junk, .junk, .junk, .junk, .junk, .junk, .junk, .junk, .junk, .junk, .junk, .junk, .junk, .junk, .junk, .junk, .junk, .junk, .junk, .junk, .junk, .junk, .junk, .junk, .junk, .junk, .junk, .junk, .junk, .junk, .junk, .junk, .junk, .junk, .junk, .junk, .junk, .junk, .junk, .junk, .junk, .junk, .junk, .junk, .junk, .junk, .junk, .junk, .junk, .junk, .junk, .junk, .junk, .junk, .junk, .junk, .junk, .junk, .junk, .junk, .junk, .junk, .junk, .junk, .junk, .junk, .junk, .junk, .junk, .junk, .junk, .junk, .junk, .junk, .junk, .junk, .junk, .junk, .junk, .junk, .junk, .junk, .junk, .junk, .junk, .junk], []⟩
abbrev noonmarkref14_Letter_t1 := (List D_api_Rule) × ByteArray × Bool × Int × D_expand_Fire
def noonmarkref14_Letter_m1 (z : noonmarkref14_Letter_t1) : St := ⟨[.v ⟨(.list T_api_Rule), z.1⟩, .junk, .junk, .v ⟨.str, z.2.1⟩, .v ⟨.bool, z.2.2.1⟩, .v ⟨(.ptr 0 0 T_expand_Fire), ()⟩, .v ⟨(.int .i64), z.2.2.2.1⟩, .junk, .junk, .junk, .junk, .junk, .junk, .junk, .junk, .junk, .junk, .junk, .junk, .junk, .junk, .junk, .junk, .junk, .junk, .junk, .junk, .junk, .junk, .junk, .junk, .junk, .junk, .junk, .junk, .junk, .junk, .junk, .junk, .junk, .junk, .junk, .junk, .junk, .junk, .junk, .junk, .junk, .junk, .junk, .junk, .junk, .junk, .junk, .junk, .junk, .junk, .junk, .junk, .junk, .junk, .junk, .junk, .junk, .junk, .junk, .junk, .junk, .junk, .junk, .junk, .junk, .junk, .junk, .junk, .junk, .junk, .junk, .junk, .junk, .junk, .junk, .junk, .junk, .junk, .junk, .junk, .junk, .junk, .junk, .junk, .junk, .junk, .junk, .junk, .junk, .junk, .junk, .junk, .junk, .junk], [some (.one ⟨T_expand_Fire, z.2.2.2.2⟩)]⟩
abbrev noonmarkref14_Letter_t2 := (List D_api_Rule) × ByteArray × Bool × Int × D_expand_Fire
def noonmarkref14_Letter_m2 (z : noonmarkref14_Letter_t2) : St := ⟨[.v ⟨(.list T_api_Rule), z.1⟩, .junk, .junk, .v ⟨.str, z.2.1⟩, .v ⟨.bool, z.2.2.1⟩, .v ⟨(.ptr 0 0 T_expand_Fire), ()⟩, .v ⟨(.int .i64), z.2.2.2.1⟩, .junk, .junk, .junk, .junk, .junk, .junk, .junk, .junk, .junk, .junk, .junk, .junk, .junk, .junk, .junk, .junk, .junk, .junk, .junk, .junk, .junk, .junk, .junk, .junk, .junk, .junk, .junk, .junk, .junk, .junk, .junk, .junk, .junk, .junk, .junk, .junk, .junk, .junk, .junk, .junk, .junk, .junk, .junk, .junk, .junk, .junk, .junk, .junk, .junk, .junk, .junk, .junk, .junk, .junk, .junk, .junk, .junk, .junk, .junk, .junk, .junk, .junk, .junk, .junk, .junk, .junk, .junk, .junk, .junk, .junk, .junk, .junk, .junk, .junk, .junk, .junk, .junk, .junk, .junk, .junk, .junk, .junk, .junk, .junk, .junk, .junk, .junk, .junk, .junk, .junk, .junk, .junk, .junk, .junk], [some (.one ⟨T_expand_Fire, z.2.2.2.2⟩)]⟩
abbrev noonmarkref14_Letter_t3 := (List D_api_Rule) × ByteArray × Bool × Int × D_expand_Fire
def noonmarkref14_Letter_m3 (z : noonmarkref14_Letter_t3) : St := ⟨[.v ⟨(.list T_api_Rule), z.1⟩, .junk, .junk, .v ⟨.str, z.2.1⟩, .v ⟨.bool, z.2.2.1⟩, .v ⟨(.ptr 0 0 T_expand_Fire), ()⟩, .v ⟨(.int .i64), z.2.2.2.1⟩, .junk, .junk, .junk, .junk, .junk, .junk, .junk, .junk, .junk, .junk, .junk, .junk, .junk, .junk, .junk, .junk, .junk, .junk, .junk, .junk, .junk, .junk, .junk, .junk, .junk, .junk, .junk, .junk, .junk, .junk, .junk, .junk, .junk, .junk, .junk, .junk, .junk, .junk, .junk, .junk, .junk, .junk, .junk, .junk, .junk, .junk, .junk, .junk, .junk, .junk, .junk, .junk, .junk, .junk, .junk, .junk, .junk, .junk, .junk, .junk, .junk, .junk, .junk, .junk, .junk, .junk, .junk, .junk, .junk, .junk, .junk, .junk, .junk, .junk, .junk, .junk, .junk, .junk, .junk, .junk, .junk, .junk, .junk, .junk, .junk, .junk, .junk, .junk, .junk, .junk, .junk, .junk, .junk, .junk], [some (.one ⟨T_expand_Fire, z.2.2.2.2⟩)]⟩
abbrev noonmarkref14_Letter_t4 := (List D_api_Rule) × ByteArray × Bool × Int × Int × D_expand_Fire × (List D_api_Rule)
def noonmarkref14_Letter_m4 (z : noonmarkref14_Letter_t4) : St := ⟨[.v ⟨(.list T_api_Rule), z.1⟩, .junk, .junk, .v ⟨.str, z.2.1⟩, .v ⟨.bool, z.2.2.1⟩, .v ⟨(.ptr 0 0 T_expand_Fire), ()⟩, .v ⟨(.int .i64), z.2.2.2.1⟩, .v ⟨(.sl 1 T_api_Rule), ()⟩, .v ⟨(.int .i64), z.2.2.2.2.1⟩, .junk, .junk, .junk, .junk, .junk, .junk, .junk, .junk, .junk, .junk, .junk, .junk, .junk, .junk, .junk, .junk, .junk, .junk, .junk, .junk, .junk, .junk, .junk, .junk, .junk, .junk, .junk, .junk, .junk, .junk, .junk, .junk, .junk, .junk, .junk, .junk, .junk, .junk, .junk, .junk, .junk, .junk, .junk, .junk, .junk, .junk, .junk, .junk, .junk, .junk, .junk, .junk, .junk, .junk, .junk, .junk, .junk, .junk, .junk, .junk, .junk, .junk, .junk, .junk, .junk, .junk, .junk, .junk, .junk, .junk, .junk, .junk, .junk, .junk, .junk, .junk, .junk, .junk, .junk, .junk, .junk, .junk, .junk, .junk, .junk, .junk, .junk, .junk, .junk, .junk, .junk, .junk], [some (.one ⟨T_expand_Fire, z.2.2.2.2.2.1⟩), some (.arr 53 T_api_Rule z.2.2.2.2.2.2)]⟩
abbrev noonmarkref14_Letter_t5 := (List D_api_Rule) × ByteArray × Bool × Int × (List D_api_Rule) × Int × D_expand_Fire
def noonmarkref14_Letter_m5 (z : noonmarkref14_Letter_t5) : St := ⟨[.v ⟨(.list T_api_Rule), z.1⟩, .junk, .junk, .v ⟨.str, z.2.1⟩, .v ⟨.bool, z.2.2.1⟩, .v ⟨(.ptr 0 0 T_expand_Fire), ()⟩, .v ⟨(.int .i64), z.2.2.2.1⟩, .v ⟨(.list T_api_Rule), z.2.2.2.2.1⟩, .v ⟨(.int .i64), z.2.2.2.2.2.1⟩, .junk, .junk, .junk, .junk, .junk, .junk, .junk, .junk, .junk, .junk, .junk, .junk, .junk, .junk, .junk, .junk, .junk, .junk, .junk, .junk, .junk, .junk, .junk, .junk, .junk, .junk, .junk, .junk, .junk, .junk, .junk, .junk, .junk, .junk, .junk, .junk, .junk, .junk, .junk, .junk, .junk, .junk, .junk, .junk, .junk, .junk, .junk, .junk, .junk, .junk, .junk, .junk, .junk, .junk, .junk, .junk, .junk, .junk, .junk, .junk, .junk, .junk, .junk, .junk, .junk, .junk, .junk, .junk, .junk, .junk, .junk, .junk, .junk, .junk, .junk, .junk, .junk, .junk, .junk, .junk, .junk, .junk, .junk, .junk, .junk, .junk, .junk, .junk, .junk, .junk, .junk, .junk], [some (.one ⟨T_expand_Fire, z.2.2.2.2.2.2⟩)]⟩
abbrev noonmarkref14_Letter_t6 := (List D_api_Rule) × ByteArray × Bool × Int × (List D_api_Rule) × Int × D_expand_Fire
def noonmarkref14_Letter_m6 (z : noonmarkref14_Letter_t6) : St := ⟨[.v ⟨(.list T_api_Rule), z.1⟩, .junk, .junk, .v ⟨.str, z.2.1⟩, .v ⟨.bool, z.2.2.1⟩, .v ⟨(.ptr 0 0 T_expand_Fire), ()⟩, .v ⟨(.int .i64), z.2.2.2.1⟩, .v ⟨(.list T_api_Rule), z.2.2.2.2.1⟩, .v ⟨(.int .i64), z.2.2.2.2.2.1⟩, .junk, .junk, .junk, .junk, .junk, .junk, .junk, .junk, .junk, .junk, .junk, .junk, .junk, .junk, .junk, .junk, .junk, .junk, .junk, .junk, .junk, .junk, .junk, .junk, .junk, .junk, .junk, .junk, .junk, .junk, .junk, .junk, .junk, .junk, .junk, .junk, .junk, .junk, .junk, .junk, .junk, .junk, .junk, .junk, .junk, .junk, .junk, .junk, .junk, .junk, .junk, .junk, .junk, .junk, .junk, .junk, .junk, .junk, .junk, .junk, .junk, .junk, .junk, .junk, .junk, .junk, .junk, .junk, .junk, .junk, .junk, .junk, .junk, .junk, .junk, .junk, .junk, .junk, .junk, .junk, .junk, .junk, .junk, .junk, .junk, .junk, .junk, .junk, .junk, .junk, .junk, .junk], [some (.one ⟨T_expand_Fire, z.2.2.2.2.2.2⟩)]⟩
abbrev noonmarkref14_Letter_t7 := (List D_api_Rule) × ByteArray × Bool × Int × Bool × D_expand_Fire × (List D_expand_Fire)
def noonmarkref14_Letter_m7 (z : noonmarkref14_Letter_t7) : St := ⟨[.v ⟨(.list T_api_Rule), z.1⟩, .junk, .junk, .v ⟨.str, z.2.1⟩, .v ⟨.bool, z.2.2.1⟩, .v ⟨(.ptr 0 0 T_expand_Fire), ()⟩, .v ⟨(.int .i64), z.2.2.2.1⟩, .junk, .junk, .v ⟨(.sl 1 T_expand_Fire), ()⟩, .junk, .junk, .junk, .junk, .junk, .junk, .junk, .junk, .junk, .junk, .junk, .junk, .junk, .junk, .junk, .junk, .junk, .junk, .junk, .junk, .junk, .junk, .junk, .junk, .junk, .junk, .junk, .junk, .junk, .junk, .junk, .junk, .junk, .junk, .junk, .junk, .junk, .junk, .junk, .junk, .junk, .junk, .junk, .junk, .junk, .junk, .junk, .junk, .junk, .junk, .junk, .junk, .junk, .junk, .junk, .junk, .junk, .junk, .junk, .junk, .junk, .junk, .junk, .junk, .junk, .junk, .junk, .junk, .junk, .junk, .junk, .junk, .junk, .junk, .junk, .junk, .junk, .junk, .junk, .junk, .junk, .v ⟨.bool, z.2.2.2.2.1⟩, .junk, .junk, .junk, .junk, .junk, .junk, .junk, .junk, .junk], [some (.one ⟨T_expand_Fire, z.2.2.2.2.2.1⟩), some (.arr 90 T_expand_Fire z.2.2.2.2.2.2)]⟩
def noonmarkref14_Letter_p0 (_n : Nat) (z : noonmarkref14_Letter_t0) : Option (ByteArray × Unit) :=
  some (z, ())
def noonmarkref14_Letter_s0 (n : Nat) (z : noonmarkref14_Letter_t0) : Option (ByteArray × Unit) := noonmarkref14_Letter_p0 n z
theorem noonmarkref14_Letter_e0 (n : Nat) (rc : Code → An → St → (Ex → St → Option (ByteArray × Unit)) → Option (ByteArray × Unit)) (z : noonmarkref14_Letter_t0) : codeR rc Try.prog noonmarkref14_Letter_sp n (cr (cr (cr (cr (cr (bodyOf Try.f46)))))) noonmarkref14_Letter_an.right.right.right.right.right (noonmarkref14_Letter_m0 z) (kFin Try.prog noonmarkref14_Letter_rs Try.f46) = noonmarkref14_Letter_p0 n z := by kernel_rfl
theorem noonmarkref14_Letter_q0 (n : Nat) (z : noonmarkref14_Letter_t0) : codeK Try.prog noonmarkref14_Letter_sp n (cr (cr (cr (cr (cr (bodyOf Try.f46)))))) noonmarkref14_Letter_an.right.right.right.right.right (noonmarkref14_Letter_m0 z) (kFin Try.prog noonmarkref14_Letter_rs Try.f46) = noonmarkref14_Letter_s0 n z := by
  rw [codeK_R, noonmarkref14_Letter_e0]
  rfl
def noonmarkref14_Letter_p3 (_n : Nat) (_k0 : noonmarkref14_Letter_t0 → Option (ByteArray × Unit)) (r2 : noonmarkref14_Letter_t2 → Option (ByteArray × Unit)) (z : noonmarkref14_Letter_t3) : Option (ByteArray × Unit) :=
  r2 (z.1, z.2.1, z.2.2.1, (w64 (z.2.2.2.1 + 1)), z.2.2.2.2)
def noonmarkref14_Letter_s3 (n : Nat) (k0 : noonmarkref14_Letter_t0 → Option (ByteArray × Unit)) (r2 : noonmarkref14_Letter_t2 → Option (ByteArray × Unit)) (z : noonmarkref14_Letter_t3) : Option (ByteArray × Unit) := noonmarkref14_Letter_p3 n k0 r2 z
theorem noonmarkref14_Letter_e3 (n : Nat) (k0 : St → Option (ByteArray × Unit)) (r2 : St → Option (ByteArray × Unit)) (rc : Code → An → St → (Ex → St → Option (ByteArray × Unit)) → Option (ByteArray × Unit)) (z : noonmarkref14_Letter_t3) : codeR rc Try.prog noonmarkref14_Letter_sp n (cr (cr (cl (cl (cr (cl (cr (cr (cr (cr (bodyOf Try.f46))))))))))) noonmarkref14_Letter_an.right.right.right.right.left.right.left.left.right.right (noonmarkref14_Letter_m3 z) (kSeq r2 noonmarkref14_Letter_an.right.right.right.right.left.right.left (kBlk 0 (kSeq k0 noonmarkref14_Letter_an.right.right.right.right (kFin Try.prog noonmarkref14_Letter_rs Try.f46)))) = noonmarkref14_Letter_p3 n (fun y => k0 (noonmarkref14_Letter_m0 y)) (fun y => r2 (noonmarkref14_Letter_m2 y)) z := by kernel_rfl
theorem noonmarkref14_Letter_q3 (n : Nat) (k0 : St → Option (ByteArray × Unit)) (r2 : St → Option (ByteArray × Unit)) (z : noonmarkref14_Letter_t3) : codeK Try.prog noonmarkref14_Letter_sp n (cr (cr (cl (cl (cr (cl (cr (cr (cr (cr (bodyOf Try.f46))))))))))) noonmarkref14_Letter_an.right.right.right.right.left.right.left.left.right.right (noonmarkref14_Letter_m3 z) (kSeq r2 noonmarkref14_Letter_an.right.right.right.right.left.right.left (kBlk 0 (kSeq k0 noonmarkref14_Letter_an.right.right.right.right (kFin Try.prog noonmarkref14_Letter_rs Try.f46)))) = noonmarkref14_Letter_s3 n (fun y => k0 (noonmarkref14_Letter_m0 y)) (fun y => r2 (noonmarkref14_Letter_m2 y)) z := by
  rw [codeK_R, noonmarkref14_Letter_e3]
  rfl
def noonmarkref14_Letter_p6 (_n : Nat) (_k0 : noonmarkref14_Letter_t0 → Option (ByteArray × Unit)) (_r2 : noonmarkref14_Letter_t2 → Option (ByteArray × Unit)) (_k3 : noonmarkref14_Letter_t3 → Option (ByteArray × Unit)) (r5 : noonmarkref14_Letter_t5 → Option (ByteArray × Unit)) (z : noonmarkref14_Letter_t6) : Option (ByteArray × Unit) :=
  r5 (z.1, z.2.1, z.2.2.1, z.2.2.2.1, z.2.2.2.2.1, (w64 (z.2.2.2.2.2.1 + 1)), z.2.2.2.2.2.2)
def noonmarkref14_Letter_s6 (n : Nat) (k0 : noonmarkref14_Letter_t0 → Option (ByteArray × Unit)) (r2 : noonmarkref14_Letter_t2 → Option (ByteArray × Unit)) (k3 : noonmarkref14_Letter_t3 → Option (ByteArray × Unit)) (r5 : noonmarkref14_Letter_t5 → Option (ByteArray × Unit)) (z : noonmarkref14_Letter_t6) : Option (ByteArray × Unit) := noonmarkref14_Letter_p6 n k0 r2 k3 r5 z
theorem noonmarkref14_Letter_e6 (n : Nat) (k0 : St → Option (ByteArray × Unit)) (r2 : St → Option (ByteArray × Unit)) (k3 : St → Option (ByteArray × Unit)) (r5 : St → Option (ByteArray × Unit)) (rc : Code → An → St → (Ex → St → Option (ByteArray × Unit)) → Option (ByteArray × Unit)) (z : noonmarkref14_Letter_t6) : codeR rc Try.prog noonmarkref14_Letter_sp n (cr (cr (cl (cl (cr (cr (cr (cl (cl (cr (cl (cl (cr (cl (cr (cr (cr (cr (bodyOf Try.f46))))))))))))))))))) noonmarkref14_Letter_an.right.right.right.right.left.right.left.left.right.left.left.right.right.right.left.left.right.right (noonmarkref14_Letter_m6 z) (kSeq r5 noonmarkref14_Letter_an.right.right.right.right.left.right.left.left.right.left.left.right.right.right.left (kBlk 2 (kBlk 1 (kSeq k3 noonmarkref14_Letter_an.right.right.right.right.left.right.left.left.right (kSeq r2 noonmarkref14_Letter_an.right.right.right.right.left.right.left (kBlk 0 (kSeq k0 noonmarkref14_Letter_an.right.right.right.right (kFin Try.prog noonmarkref14_Letter_rs Try.f46)))))))) = noonmarkref14_Letter_p6 n (fun y => k0 (noonmarkref14_Letter_m0 y)) (fun y => r2 (noonmarkref14_Letter_m2 y)) (fun y => k3 (noonmarkref14_Letter_m3 y)) (fun y => r5 (noonmarkref14_Letter_m5 y)) z := by kernel_rfl
theorem noonmarkref14_Letter_q6 (n : Nat) (k0 : St → Option (ByteArray × Unit)) (r2 : St → Option (ByteArray × Unit)) (k3 : St → Option (ByteArray × Unit)) (r5 : St → Option (ByteArray × Unit)) (z : noonmarkref14_Letter_t6) : codeK Try.prog noonmarkref14_Letter_sp n (cr (cr (cl (cl (cr (cr (cr (cl (cl (cr (cl (cl (cr (cl (cr (cr (cr (cr (bodyOf Try.f46))))))))))))))))))) noonmarkref14_Letter_an.right.right.right.right.left.right.left.left.right.left.left.right.right.right.left.left.right.right (noonmarkref14_Letter_m6 z) (kSeq r5 noonmarkref14_Letter_an.right.right.right.right.left.right.left.left.right.left.left.right.right.right.left (kBlk 2 (kBlk 1 (kSeq k3 noonmarkref14_Letter_an.right.right.right.right.left.right.left.left.right (kSeq r2 noonmarkref14_Letter_an.right.right.right.right.left.right.left (kBlk 0 (kSeq k0 noonmarkref14_Letter_an.right.right.right.right (kFin Try.prog noonmarkref14_Letter_rs Try.f46)))))))) = noonmarkref14_Letter_s6 n (fun y => k0 (noonmarkref14_Letter_m0 y)) (fun y => r2 (noonmarkref14_Letter_m2 y)) (fun y => k3 (noonmarkref14_Letter_m3 y)) (fun y => r5 (noonmarkref14_Letter_m5 y)) z := by
  rw [codeK_R, noonmarkref14_Letter_e6]
  rfl
def noonmarkref14_Letter_p7 (_n : Nat) (_k0 : noonmarkref14_Letter_t0 → Option (ByteArray × Unit)) (_r2 : noonmarkref14_Letter_t2 → Option (ByteArray × Unit)) (k3 : noonmarkref14_Letter_t3 → Option (ByteArray × Unit)) (_r5 : noonmarkref14_Letter_t5 → Option (ByteArray × Unit)) (_k6 : noonmarkref14_Letter_t6 → Option (ByteArray × Unit)) (z : noonmarkref14_Letter_t7) : Option (ByteArray × Unit) :=
  bif z.2.2.2.2.1 then
    bif decide (0 ≤ (0 : Int) ∧ (0 : Int) < (List.length z.2.2.2.2.2.2 : Int)) then
      ((z.2.2.2.2.2.2[(Int.toNat (0 : Int))]?)).bind fun e25 =>
      bif decide (0 ≤ z.2.2.2.1) then
        ((z.1[Int.toNat z.2.2.2.1]?)).bind fun e26 =>
        k3 (z.1, e26.2.2.2.2.2.2.2.1, true, z.2.2.2.1, e25)
      else none
    else none
  else
    k3 (z.1, z.2.1, z.2.2.1, z.2.2.2.1, z.2.2.2.2.2.1)
def noonmarkref14_Letter_s7 (n : Nat) (k0 : noonmarkref14_Letter_t0 → Option (ByteArray × Unit)) (r2 : noonmarkref14_Letter_t2 → Option (ByteArray × Unit)) (k3 : noonmarkref14_Letter_t3 → Option (ByteArray × Unit)) (r5 : noonmarkref14_Letter_t5 → Option (ByteArray × Unit)) (k6 : noonmarkref14_Letter_t6 → Option (ByteArray × Unit)) (z : noonmarkref14_Letter_t7) : Option (ByteArray × Unit) := noonmarkref14_Letter_p7 n k0 r2 k3 r5 k6 z
theorem noonmarkref14_Letter_e7 (n : Nat) (k0 : St → Option (ByteArray × Unit)) (r2 : St → Option (ByteArray × Unit)) (k3 : St → Option (ByteArray × Unit)) (r5 : St → Option (ByteArray × Unit)) (k6 : St → Option (ByteArray × Unit)) (rc : Code → An → St → (Ex → St → Option (ByteArray × Unit)) → Option (ByteArray × Unit)) (z : noonmarkref14_Letter_t7) : codeR rc Try.prog noonmarkref14_Letter_sp n (cr (cl (cr (cr (cr (cl (cl (cr (cl (cl (cr (cr (cr (cl (cl (cr (cl (cl (cr (cl (cr (cr (cr (cr (bodyOf Try.f46))))))))))))))))))))))))) noonmarkref14_Letter_an.right.right.right.right.left.right.left.left.right.left.left.right.right.right.left.left.right.left.left.right.right.right.left.right (noonmarkref14_Letter_m7 z) (kSeq (fun st => codeK Try.prog noonmarkref14_Letter_sp n (cr (cr (cr (cr (cl (cl (cr (cl (cl (cr (cr (cr (cl (cl (cr (cl (cl (cr (cl (cr (cr (cr (cr (bodyOf Try.f46)))))))))))))))))))))))) noonmarkref14_Letter_an.right.right.right.right.left.right.left.left.right.left.left.right.right.right.left.left.right.left.left.right.right.right.right st (kBlk 3 (kSeq k6 noonmarkref14_Letter_an.right.right.right.right.left.right.left.left.right.left.left.right.right.right.left.left.right (kSeq r5 noonmarkref14_Letter_an.right.right.right.right.left.right.left.left.right.left.left.right.right.right.left (kBlk 2 (kBlk 1 (kSeq k3 noonmarkref14_Letter_an.right.right.right.right.left.right.left.left.right (kSeq r2 noonmarkref14_Letter_an.right.right.right.right.left.right.left (kBlk 0 (kSeq k0 noonmarkref14_Letter_an.right.right.right.right (kFin Try.prog noonmarkref14_Letter_rs Try.f46))))))))))) noonmarkref14_Letter_an.right.right.right.right.left.right.left.left.right.left.left.right.right.right.left.left.right.left.left.right.right.right (kBlk 3 (kSeq k6 noonmarkref14_Letter_an.right.right.right.right.left.right.left.left.right.left.left.right.right.right.left.left.right (kSeq r5 noonmarkref14_Letter_an.right.right.right.right.left.right.left.left.right.left.left.right.right.right.left (kBlk 2 (kBlk 1 (kSeq k3 noonmarkref14_Letter_an.right.right.right.right.left.right.left.left.right (kSeq r2 noonmarkref14_Letter_an.right.right.right.right.left.right.left (kBlk 0 (kSeq k0 noonmarkref14_Letter_an.right.right.right.right (kFin Try.prog noonmarkref14_Letter_rs Try.f46))))))))))) = noonmarkref14_Letter_p7 n (fun y => k0 (noonmarkref14_Letter_m0 y)) (fun y => r2 (noonmarkref14_Letter_m2 y)) (fun y => k3 (noonmarkref14_Letter_m3 y)) (fun y => r5 (noonmarkref14_Letter_m5 y)) (fun y => k6 (noonmarkref14_Letter_m6 y)) z := by kernel_rfl
theorem noonmarkref14_Letter_q7 (n : Nat) (k0 : St → Option (ByteArray × Unit)) (r2 : St → Option (ByteArray × Unit)) (k3 : St → Option (ByteArray × Unit)) (r5 : St → Option (ByteArray × Unit)) (k6 : St → Option (ByteArray × Unit)) (z : noonmarkref14_Letter_t7) : codeK Try.prog noonmarkref14_Letter_sp n (cr (cl (cr (cr (cr (cl (cl (cr (cl (cl (cr (cr (cr (cl (cl (cr (cl (cl (cr (cl (cr (cr (cr (cr (bodyOf Try.f46))))))))))))))))))))))))) noonmarkref14_Letter_an.right.right.right.right.left.right.left.left.right.left.left.right.right.right.left.left.right.left.left.right.right.right.left.right (noonmarkref14_Letter_m7 z) (kSeq (fun st => codeK Try.prog noonmarkref14_Letter_sp n (cr (cr (cr (cr (cl (cl (cr (cl (cl (cr (cr (cr (cl (cl (cr (cl (cl (cr (cl (cr (cr (cr (cr (bodyOf Try.f46)))))))))))))))))))))))) noonmarkref14_Letter_an.right.right.right.right.left.right.left.left.right.left.left.right.right.right.left.left.right.left.left.right.right.right.right st (kBlk 3 (kSeq k6 noonmarkref14_Letter_an.right.right.right.right.left.right.left.left.right.left.left.right.right.right.left.left.right (kSeq r5 noonmarkref14_Letter_an.right.right.right.right.left.right.left.left.right.left.left.right.right.right.left (kBlk 2 (kBlk 1 (kSeq k3 noonmarkref14_Letter_an.right.right.right.right.left.right.left.left.right (kSeq r2 noonmarkref14_Letter_an.right.right.right.right.left.right.left (kBlk 0 (kSeq k0 noonmarkref14_Letter_an.right.right.right.right (kFin Try.prog noonmarkref14_Letter_rs Try.f46))))))))))) noonmarkref14_Letter_an.right.right.right.right.left.right.left.left.right.left.left.right.right.right.left.left.right.left.left.right.right.right (kBlk 3 (kSeq k6 noonmarkref14_Letter_an.right.right.right.right.left.right.left.left.right.left.left.right.right.right.left.left.right (kSeq r5 noonmarkref14_Letter_an.right.right.right.right.left.right.left.left.right.left.left.right.right.right.left (kBlk 2 (kBlk 1 (kSeq k3 noonmarkref14_Letter_an.right.right.right.right.left.right.left.left.right (kSeq r2 noonmarkref14_Letter_an.right.right.right.right.left.right.left (kBlk 0 (kSeq k0 noonmarkref14_Letter_an.right.right.right.right (kFin Try.prog noonmarkref14_Letter_rs Try.f46))))))))))) = noonmarkref14_Letter_s7 n (fun y => k0 (noonmarkref14_Letter_m0 y)) (fun y => r2 (noonmarkref14_Letter_m2 y)) (fun y => k3 (noonmarkref14_Letter_m3 y)) (fun y => r5 (noonmarkref14_Letter_m5 y)) (fun y => k6 (noonmarkref14_Letter_m6 y)) z := by
  rw [codeK_R, noonmarkref14_Letter_e7]
  rfl
def noonmarkref14_Letter_p5 (n : Nat) (_k0 : noonmarkref14_Letter_t0 → Option (ByteArray × Unit)) (_r2 : noonmarkref14_Letter_t2 → Option (ByteArray × Unit)) (k3 : noonmarkref14_Letter_t3 → Option (ByteArray × Unit)) (_r5 : noonmarkref14_Letter_t5 → Option (ByteArray × Unit)) (k6 : noonmarkref14_Letter_t6 → Option (ByteArray × Unit)) (k7 : noonmarkref14_Letter_t7 → Option (ByteArray × Unit)) (z : noonmarkref14_Letter_t5) : Option (ByteArray × Unit) :=
  bif decide (0 ≤ z.2.2.2.1) then
    ((z.1[Int.toNat z.2.2.2.1]?)).bind fun e7 =>
    bif (decide (z.2.2.2.2.2.1 ≤ (imin e7.2.2.1 (9999 : Int)))) then
      bif decide (0 ≤ z.2.2.2.1) then
        ((z.1[Int.toNat z.2.2.2.1]?)).bind fun e9 =>
        bif (decide ((w64 (z.2.2.2.2.2.1 - (imax e9.2.1 (1 : Int)))) ≤ 8)) then
          ((noonmarkref14_year n (z.2.2.2.2.1, (z.2.2.2.2.2.1, ())))).bind fun v12 =>
          bif ((List.length v12.1 : Int) == 0) then
            k6 (z.1, z.2.1, z.2.2.1, z.2.2.2.1, z.2.2.2.2.1, z.2.2.2.2.2.1, z.2.2.2.2.2.2)
          else
            bif decide (0 ≤ (0 : Int) ∧ (0 : Int) < (List.length v12.1 : Int)) then
              ((v12.1[(Int.toNat (0 : Int))]?)).bind fun e14 =>
              let l15 := List.set v12.1 (Int.toNat (0 : Int)) (z.2.2.2.1, e14.2)
              bif (!z.2.2.1) then
                k7 (z.1, z.2.1, z.2.2.1, z.2.2.2.1, true, z.2.2.2.2.2.2, l15)
              else
                bif decide (0 ≤ (0 : Int) ∧ (0 : Int) < (List.length l15 : Int)) then
                  ((l15[(Int.toNat (0 : Int))]?)).bind fun e17 =>
                  bif (decide (e17.2.1 < z.2.2.2.2.2.2.2.1)) then
                    k7 (z.1, z.2.1, z.2.2.1, z.2.2.2.1, true, z.2.2.2.2.2.2, l15)
                  else
                    bif decide (0 ≤ (0 : Int) ∧ (0 : Int) < (List.length l15 : Int)) then
                      ((l15[(Int.toNat (0 : Int))]?)).bind fun e19 =>
                      bif (e19.2.1 == z.2.2.2.2.2.2.2.1) then
                        bif decide (0 ≤ (0 : Int) ∧ (0 : Int) < (List.length l15 : Int)) then
                          ((l15[(Int.toNat (0 : Int))]?)).bind fun e21 =>
                          ((noonmarkref14_before n (e21, (z.2.2.2.2.2.2, ())))).bind fun v22 =>
                          k7 (z.1, z.2.1, z.2.2.1, z.2.2.2.1, v22.1, z.2.2.2.2.2.2, l15)
                        else none
                      else
                        k7 (z.1, z.2.1, z.2.2.1, z.2.2.2.1, false, z.2.2.2.2.2.2, l15)
                    else none
                else none
            else none
        else
          k3 (z.1, z.2.1, z.2.2.1, z.2.2.2.1, z.2.2.2.2.2.2)
      else none
    else
      k3 (z.1, z.2.1, z.2.2.1, z.2.2.2.1, z.2.2.2.2.2.2)
  else none
def noonmarkref14_Letter_s5 (n : Nat) (k0 : noonmarkref14_Letter_t0 → Option (ByteArray × Unit)) (r2 : noonmarkref14_Letter_t2 → Option (ByteArray × Unit)) (k3 : noonmarkref14_Letter_t3 → Option (ByteArray × Unit)) (r5 : noonmarkref14_Letter_t5 → Option (ByteArray × Unit)) (z : noonmarkref14_Letter_t5) : Option (ByteArray × Unit) := noonmarkref14_Letter_p5 n k0 r2 k3 r5 (noonmarkref14_Letter_s6 n k0 r2 k3 r5) (noonmarkref14_Letter_s7 n k0 r2 k3 r5 (noonmarkref14_Letter_s6 n k0 r2 k3 r5)) z
theorem noonmarkref14_Letter_e5 (n : Nat) (k0 : St → Option (ByteArray × Unit)) (r2 : St → Option (ByteArray × Unit)) (k3 : St → Option (ByteArray × Unit)) (r5 : St → Option (ByteArray × Unit)) (rc : Code → An → St → (Ex → St → Option (ByteArray × Unit)) → Option (ByteArray × Unit)) (z : noonmarkref14_Letter_t5) : codeR rc Try.prog noonmarkref14_Letter_sp n (cl (cl (cr (cr (cr (cl (cl (cr (cl (cl (cr (cl (cr (cr (cr (cr (bodyOf Try.f46))))))))))))))))) noonmarkref14_Letter_an.right.right.right.right.left.right.left.left.right.left.left.right.right.right.left.left (noonmarkref14_Letter_m5 z) (kSeq r5 noonmarkref14_Letter_an.right.right.right.right.left.right.left.left.right.left.left.right.right.right.left (kBlk 2 (kBlk 1 (kSeq k3 noonmarkref14_Letter_an.right.right.right.right.left.right.left.left.right (kSeq r2 noonmarkref14_Letter_an.right.right.right.right.left.right.left (kBlk 0 (kSeq k0 noonmarkref14_Letter_an.right.right.right.right (kFin Try.prog noonmarkref14_Letter_rs Try.f46)))))))) = noonmarkref14_Letter_p5 n (fun y => k0 (noonmarkref14_Letter_m0 y)) (fun y => r2 (noonmarkref14_Letter_m2 y)) (fun y => k3 (noonmarkref14_Letter_m3 y)) (fun y => r5 (noonmarkref14_Letter_m5 y)) (fun y => rc (cr (cr (cl (cl (cr (cr (cr (cl (cl (cr (cl (cl (cr (cl (cr (cr (cr (cr (bodyOf Try.f46))))))))))))))))))) noonmarkref14_Letter_an.right.right.right.right.left.right.left.left.right.left.left.right.right.right.left.left.right.right (noonmarkref14_Letter_m6 y) (kSeq r5 noonmarkref14_Letter_an.right.right.right.right.left.right.left.left.right.left.left.right.right.right.left (kBlk 2 (kBlk 1 (kSeq k3 noonmarkref14_Letter_an.right.right.right.right.left.right.left.left.right (kSeq r2 noonmarkref14_Letter_an.right.right.right.right.left.right.left (kBlk 0 (kSeq k0 noonmarkref14_Letter_an.right.right.right.right (kFin Try.prog noonmarkref14_Letter_rs Try.f46))))))))) (fun y => rc (cr (cl (cr (cr (cr (cl (cl (cr (cl (cl (cr (cr (cr (cl (cl (cr (cl (cl (cr (cl (cr (cr (cr (cr (bodyOf Try.f46))))))))))))))))))))))))) noonmarkref14_Letter_an.right.right.right.right.left.right.left.left.right.left.left.right.right.right.left.left.right.left.left.right.right.right.left.right (noonmarkref14_Letter_m7 y) (kSeq (fun st => codeK Try.prog noonmarkref14_Letter_sp n (cr (cr (cr (cr (cl (cl (cr (cl (cl (cr (cr (cr (cl (cl (cr (cl (cl (cr (cl (cr (cr (cr (cr (bodyOf Try.f46)))))))))))))))))))))))) noonmarkref14_Letter_an.right.right.right.right.left.right.left.left.right.left.left.right.right.right.left.left.right.left.left.right.right.right.right st (kBlk 3 (kSeq (fun st => rc (cr (cr (cl (cl (cr (cr (cr (cl (cl (cr (cl (cl (cr (cl (cr (cr (cr (cr (bodyOf Try.f46))))))))))))))))))) noonmarkref14_Letter_an.right.right.right.right.left.right.left.left.right.left.left.right.right.right.left.left.right.right st (kSeq r5 noonmarkref14_Letter_an.right.right.right.right.left.right.left.left.right.left.left.right.right.right.left (kBlk 2 (kBlk 1 (kSeq k3 noonmarkref14_Letter_an.right.right.right.right.left.right.left.left.right (kSeq r2 noonmarkref14_Letter_an.right.right.right.right.left.right.left (kBlk 0 (kSeq k0 noonmarkref14_Letter_an.right.right.right.right (kFin Try.prog noonmarkref14_Letter_rs Try.f46))))))))) noonmarkref14_Letter_an.right.right.right.right.left.right.left.left.right.left.left.right.right.right.left.left.right (kSeq r5 noonmarkref14_Letter_an.right.right.right.right.left.right.left.left.right.left.left.right.right.right.left (kBlk 2 (kBlk 1 (kSeq k3 noonmarkref14_Letter_an.right.right.right.right.left.right.left.left.right (kSeq r2 noonmarkref14_Letter_an.right.right.right.right.left.right.left (kBlk 0 (kSeq k0 noonmarkref14_Letter_an.right.right.right.right (kFin Try.prog noonmarkref14_Letter_rs Try.f46))))))))))) noonmarkref14_Letter_an.right.right.right.right.left.right.left.left.right.left.left.right.right.right.left.left.right.left.left.right.right.right (kBlk 3 (kSeq (fun st => rc (cr (cr (cl (cl (cr (cr (cr (cl (cl (cr (cl (cl (cr (cl (cr (cr (cr (cr (bodyOf Try.f46))))))))))))))))))) noonmarkref14_Letter_an.right.right.right.right.left.right.left.left.right.left.left.right.right.right.left.left.right.right st (kSeq r5 noonmarkref14_Letter_an.right.right.right.right.left.right.left.left.right.left.left.right.right.right.left (kBlk 2 (kBlk 1 (kSeq k3 noonmarkref14_Letter_an.right.right.right.right.left.right.left.left.right (kSeq r2 noonmarkref14_Letter_an.right.right.right.right.left.right.left (kBlk 0 (kSeq k0 noonmarkref14_Letter_an.right.right.right.right (kFin Try.prog noonmarkref14_Letter_rs Try.f46))))))))) noonmarkref14_Letter_an.right.right.right.right.left.right.left.left.right.left.left.right.right.right.left.left.right (kSeq r5 noonmarkref14_Letter_an.right.right.right.right.left.right.left.left.right.left.left.right.right.right.left (kBlk 2 (kBlk 1 (kSeq k3 noonmarkref14_Letter_an.right.right.right.right.left.right.left.left.right (kSeq r2 noonmarkref14_Letter_an.right.right.right.right.left.right.left (kBlk 0 (kSeq k0 noonmarkref14_Letter_an.right.right.right.right (kFin Try.prog noonmarkref14_Letter_rs Try.f46)))))))))))) z := by kernel_rfl
theorem noonmarkref14_Letter_q5 (n : Nat) (k0 : St → Option (ByteArray × Unit)) (r2 : St → Option (ByteArray × Unit)) (k3 : St → Option (ByteArray × Unit)) (r5 : St → Option (ByteArray × Unit)) (z : noonmarkref14_Letter_t5) : codeK Try.prog noonmarkref14_Letter_sp n (cl (cl (cr (cr (cr (cl (cl (cr (cl (cl (cr (cl (cr (cr (cr (cr (bodyOf Try.f46))))))))))))))))) noonmarkref14_Letter_an.right.right.right.right.left.right.left.left.right.left.left.right.right.right.left.left (noonmarkref14_Letter_m5 z) (kSeq r5 noonmarkref14_Letter_an.right.right.right.right.left.right.left.left.right.left.left.right.right.right.left (kBlk 2 (kBlk 1 (kSeq k3 noonmarkref14_Letter_an.right.right.right.right.left.right.left.left.right (kSeq r2 noonmarkref14_Letter_an.right.right.right.right.left.right.left (kBlk 0 (kSeq k0 noonmarkref14_Letter_an.right.right.right.right (kFin Try.prog noonmarkref14_Letter_rs Try.f46)))))))) = noonmarkref14_Letter_s5 n (fun y => k0 (noonmarkref14_Letter_m0 y)) (fun y => r2 (noonmarkref14_Letter_m2 y)) (fun y => k3 (noonmarkref14_Letter_m3 y)) (fun y => r5 (noonmarkref14_Letter_m5 y)) z := by
  have h6 : (fun y => codeK Try.prog noonmarkref14_Letter_sp n (cr (cr (cl (cl (cr (cr (cr (cl (cl (cr (cl (cl (cr (cl (cr (cr (cr (cr (bodyOf Try.f46))))))))))))))))))) noonmarkref14_Letter_an.right.right.right.right.left.right.left.left.right.left.left.right.right.right.left.left.right.right (noonmarkref14_Letter_m6 y) (kSeq r5 noonmarkref14_Letter_an.right.right.right.right.left.right.left.left.right.left.left.right.right.right.left (kBlk 2 (kBlk 1 (kSeq k3 noonmarkref14_Letter_an.right.right.right.right.left.right.left.left.right (kSeq r2 noonmarkref14_Letter_an.right.right.right.right.left.right.left (kBlk 0 (kSeq k0 noonmarkref14_Letter_an.right.right.right.right (kFin Try.prog noonmarkref14_Letter_rs Try.f46))))))))) = (noonmarkref14_Letter_s6 n (fun y => k0 (noonmarkref14_Letter_m0 y)) (fun y => r2 (noonmarkref14_Letter_m2 y)) (fun y => k3 (noonmarkref14_Letter_m3 y)) (fun y => r5 (noonmarkref14_Letter_m5 y))) := funext fun y => by
    have := noonmarkref14_Letter_q6 n k0 r2 k3 r5 y
    exact this
  have h7 : (fun y => codeK Try.prog noonmarkref14_Letter_sp n (cr (cl (cr (cr (cr (cl (cl (cr (cl (cl (cr (cr (cr (cl (cl (cr (cl (cl (cr (cl (cr (cr (cr (cr (bodyOf Try.f46))))))))))))))))))))))))) noonmarkref14_Letter_an.right.right.right.right.left.right.left.left.right.left.left.right.right.right.left.left.right.left.left.right.right.right.left.right (noonmarkref14_Letter_m7 y) (kSeq (fun st => codeK Try.prog noonmarkref14_Letter_sp n (cr (cr (cr (cr (cl (cl (cr (cl (cl (cr (cr (cr (cl (cl (cr (cl (cl (cr (cl (cr (cr (cr (cr (bodyOf Try.f46)))))))))))))))))))))))) noonmarkref14_Letter_an.right.right.right.right.left.right.left.left.right.left.left.right.right.right.left.left.right.left.left.right.right.right.right st (kBlk 3 (kSeq (fun st => codeK Try.prog noonmarkref14_Letter_sp n (cr (cr (cl (cl (cr (cr (cr (cl (cl (cr (cl (cl (cr (cl (cr (cr (cr (cr (bodyOf Try.f46))))))))))))))))))) noonmarkref14_Letter_an.right.right.right.right.left.right.left.left.right.left.left.right.right.right.left.left.right.right st (kSeq r5 noonmarkref14_Letter_an.right.right.right.right.left.right.left.left.right.left.left.right.right.right.left (kBlk 2 (kBlk 1 (kSeq k3 noonmarkref14_Letter_an.right.right.right.right.left.right.left.left.right (kSeq r2 noonmarkref14_Letter_an.right.right.right.right.left.right.left (kBlk 0 (kSeq k0 noonmarkref14_Letter_an.right.right.right.right (kFin Try.prog noonmarkref14_Letter_rs Try.f46))))))))) noonmarkref14_Letter_an.right.right.right.right.left.right.left.left.right.left.left.right.right.right.left.left.right (kSeq r5 noonmarkref14_Letter_an.right.right.right.right.left.right.left.left.right.left.left.right.right.right.left (kBlk 2 (kBlk 1 (kSeq k3 noonmarkref14_Letter_an.right.right.right.right.left.right.left.left.right (kSeq r2 noonmarkref14_Letter_an.right.right.right.right.left.right.left (kBlk 0 (kSeq k0 noonmarkref14_Letter_an.right.right.right.right (kFin Try.prog noonmarkref14_Letter_rs Try.f46))))))))))) noonmarkref14_Letter_an.right.right.right.right.left.right.left.left.right.left.left.right.right.right.left.left.right.left.left.right.right.right (kBlk 3 (kSeq (fun st => codeK Try.prog noonmarkref14_Letter_sp n (cr (cr (cl (cl (cr (cr (cr (cl (cl (cr (cl (cl (cr (cl (cr (cr (cr (cr (bodyOf Try.f46))))))))))))))))))) noonmarkref14_Letter_an.right.right.right.right.left.right.left.left.right.left.left.right.right.right.left.left.right.right st (kSeq r5 noonmarkref14_Letter_an.right.right.right.right.left.right.left.left.right.left.left.right.right.right.left (kBlk 2 (kBlk 1 (kSeq k3 noonmarkref14_Letter_an.right.right.right.right.left.right.left.left.right (kSeq r2 noonmarkref14_Letter_an.right.right.right.right.left.right.left (kBlk 0 (kSeq k0 noonmarkref14_Letter_an.right.right.right.right (kFin Try.prog noonmarkref14_Letter_rs Try.f46))))))))) noonmarkref14_Letter_an.right.right.right.right.left.right.left.left.right.left.left.right.right.right.left.left.right (kSeq r5 noonmarkref14_Letter_an.right.right.right.right.left.right.left.left.right.left.left.right.right.right.left (kBlk 2 (kBlk 1 (kSeq k3 noonmarkref14_Letter_an.right.right.right.right.left.right.left.left.right (kSeq r2 noonmarkref14_Letter_an.right.right.right.right.left.right.left (kBlk 0 (kSeq k0 noonmarkref14_Letter_an.right.right.right.right (kFin Try.prog noonmarkref14_Letter_rs Try.f46)))))))))))) = (noonmarkref14_Letter_s7 n (fun y => k0 (noonmarkref14_Letter_m0 y)) (fun y => r2 (noonmarkref14_Letter_m2 y)) (fun y => k3 (noonmarkref14_Letter_m3 y)) (fun y => r5 (noonmarkref14_Letter_m5 y)) (noonmarkref14_Letter_s6 n (fun y => k0 (noonmarkref14_Letter_m0 y)) (fun y => r2 (noonmarkref14_Letter_m2 y)) (fun y => k3 (noonmarkref14_Letter_m3 y)) (fun y => r5 (noonmarkref14_Letter_m5 y)))) := funext fun y => by
    have := noonmarkref14_Letter_q7 n k0 r2 k3 r5 (fun st => codeK Try.prog noonmarkref14_Letter_sp n (cr (cr (cl (cl (cr (cr (cr (cl (cl (cr (cl (cl (cr (cl (cr (cr (cr (cr (bodyOf Try.f46))))))))))))))))))) noonmarkref14_Letter_an.right.right.right.right.left.right.left.left.right.left.left.right.right.right.left.left.right.right st (kSeq r5 noonmarkref14_Letter_an.right.right.right.right.left.right.left.left.right.left.left.right.right.right.left (kBlk 2 (kBlk 1 (kSeq k3 noonmarkref14_Letter_an.right.right.right.right.left.right.left.left.right (kSeq r2 noonmarkref14_Letter_an.right.right.right.right.left.right.left (kBlk 0 (kSeq k0 noonmarkref14_Letter_an.right.right.right.right (kFin Try.prog noonmarkref14_Letter_rs Try.f46))))))))) y
    rw [h6] at this; exact this
  rw [codeK_R, noonmarkref14_Letter_e5]
  rw [h6]
  rw [h7]
  rfl
def noonmarkref14_Letter_s4 (n : Nat) (k0 : noonmarkref14_Letter_t0 → Option (ByteArray × Unit)) (r2 : noonmarkref14_Letter_t2 → Option (ByteArray × Unit)) (k3 : noonmarkref14_Letter_t3 → Option (ByteArray × Unit)) (z : noonmarkref14_Letter_t4) : Option (ByteArray × Unit) :=
  rounds (fun r5 x' => noonmarkref14_Letter_s5 n k0 r2 k3 r5 x') n (z.1, z.2.1, z.2.2.1, z.2.2.2.1, z.2.2.2.2.2.2, z.2.2.2.2.1, z.2.2.2.2.2.1)
theorem noonmarkref14_Letter_q4 (n : Nat) (k0 : St → Option (ByteArray × Unit)) (r2 : St → Option (ByteArray × Unit)) (k3 : St → Option (ByteArray × Unit)) (z : noonmarkref14_Letter_t4) : codeK Try.prog noonmarkref14_Letter_sp n (cr (cr (cr (cl (cl (cr (cl (cl (cr (cl (cr (cr (cr (cr (bodyOf Try.f46))))))))))))))) noonmarkref14_Letter_an.right.right.right.right.left.right.left.left.right.left.left.right.right.right (noonmarkref14_Letter_m4 z) (kBlk 1 (kSeq k3 noonmarkref14_Letter_an.right.right.right.right.left.right.left.left.right (kSeq r2 noonmarkref14_Letter_an.right.right.right.right.left.right.left (kBlk 0 (kSeq k0 noonmarkref14_Letter_an.right.right.right.right (kFin Try.prog noonmarkref14_Letter_rs Try.f46)))))) = noonmarkref14_Letter_s4 n (fun y => k0 (noonmarkref14_Letter_m0 y)) (fun y => r2 (noonmarkref14_Letter_m2 y)) (fun y => k3 (noonmarkref14_Letter_m3 y)) z :=
  Eq.trans (b := rounds (fun r5 st => codeK Try.prog noonmarkref14_Letter_sp n (cl (cl (cr (cr (cr (cl (cl (cr (cl (cl (cr (cl (cr (cr (cr (cr (bodyOf Try.f46))))))))))))))))) noonmarkref14_Letter_an.right.right.right.right.left.right.left.left.right.left.left.right.right.right.left.left st (kSeq r5 noonmarkref14_Letter_an.right.right.right.right.left.right.left.left.right.left.left.right.right.right.left (kBlk 2 (kBlk 1 (kSeq k3 noonmarkref14_Letter_an.right.right.right.right.left.right.left.left.right (kSeq r2 noonmarkref14_Letter_an.right.right.right.right.left.right.left (kBlk 0 (kSeq k0 noonmarkref14_Letter_an.right.right.right.right (kFin Try.prog noonmarkref14_Letter_rs Try.f46))))))))) n (noonmarkref14_Letter_m5 (z.1, z.2.1, z.2.2.1, z.2.2.2.1, z.2.2.2.2.2.2, z.2.2.2.2.1, z.2.2.2.2.2.1))) (by kernel_rfl) (rounds_mk noonmarkref14_Letter_m5 (fun r5 x' => by
    have := (noonmarkref14_Letter_q5 n k0 r2 k3 r5 x')
    exact this) n _)
def noonmarkref14_Letter_p2 (_n : Nat) (k0 : noonmarkref14_Letter_t0 → Option (ByteArray × Unit)) (_r2 : noonmarkref14_Letter_t2 → Option (ByteArray × Unit)) (k3 : noonmarkref14_Letter_t3 → Option (ByteArray × Unit)) (k4 : noonmarkref14_Letter_t4 → Option (ByteArray × Unit)) (z : noonmarkref14_Letter_t2) : Option (ByteArray × Unit) :=
  bif (decide (z.2.2.2.1 < (List.length z.1 : Int))) then
    bif decide (0 ≤ z.2.2.2.1) then
      ((z.1[Int.toNat z.2.2.2.1]?)).bind fun e1 =>
      bif (e1.2.2.2.2.2.2.1 != 0) then
        k3 (z.1, z.2.1, z.2.2.1, z.2.2.2.1, z.2.2.2.2)
      else
        bif decide (0 ≤ z.2.2.2.1) then
          ((z.1[Int.toNat z.2.2.2.1]?)).bind fun e2 =>
          bif decide (0 ≤ z.2.2.2.1) then
            ((z.1[Int.toNat z.2.2.2.1]?)).bind fun e4 =>
            k4 (z.1, z.2.1, z.2.2.1, z.2.2.2.1, (imax e4.2.1 (1 : Int)), z.2.2.2.2, ((e2 :: [])))
          else none
        else none
    else none
  else
    k0 z.2.1
def noonmarkref14_Letter_s2 (n : Nat) (k0 : noonmarkref14_Letter_t0 → Option (ByteArray × Unit)) (r2 : noonmarkref14_Letter_t2 → Option (ByteArray × Unit)) (z : noonmarkref14_Letter_t2) : Option (ByteArray × Unit) := noonmarkref14_Letter_p2 n k0 r2 (noonmarkref14_Letter_s3 n k0 r2) (noonmarkref14_Letter_s4 n k0 r2 (noonmarkref14_Letter_s3 n k0 r2)) z
theorem noonmarkref14_Letter_e2 (n : Nat) (k0 : St → Option (ByteArray × Unit)) (r2 : St → Option (ByteArray × Unit)) (rc : Code → An → St → (Ex → St → Option (ByteArray × Unit)) → Option (ByteArray × Unit)) (z : noonmarkref14_Letter_t2) : codeR rc Try.prog noonmarkref14_Letter_sp n (cl (cl (cr (cl (cr (cr (cr (cr (bodyOf Try.f46))))))))) noonmarkref14_Letter_an.right.right.right.right.left.right.left.left (noonmarkref14_Letter_m2 z) (kSeq r2 noonmarkref14_Letter_an.right.right.right.right.left.right.left (kBlk 0 (kSeq k0 noonmarkref14_Letter_an.right.right.right.right (kFin Try.prog noonmarkref14_Letter_rs Try.f46)))) = noonmarkref14_Letter_p2 n (fun y => k0 (noonmarkref14_Letter_m0 y)) (fun y => r2 (noonmarkref14_Letter_m2 y)) (fun y => rc (cr (cr (cl (cl (cr (cl (cr (cr (cr (cr (bodyOf Try.f46))))))))))) noonmarkref14_Letter_an.right.right.right.right.left.right.left.left.right.right (noonmarkref14_Letter_m3 y) (kSeq r2 noonmarkref14_Letter_an.right.right.right.right.left.right.left (kBlk 0 (kSeq k0 noonmarkref14_Letter_an.right.right.right.right (kFin Try.prog noonmarkref14_Letter_rs Try.f46))))) (fun y => rc (cr (cr (cr (cl (cl (cr (cl (cl (cr (cl (cr (cr (cr (cr (bodyOf Try.f46))))))))))))))) noonmarkref14_Letter_an.right.right.right.right.left.right.left.left.right.left.left.right.right.right (noonmarkref14_Letter_m4 y) (kBlk 1 (kSeq (fun st => rc (cr (cr (cl (cl (cr (cl (cr (cr (cr (cr (bodyOf Try.f46))))))))))) noonmarkref14_Letter_an.right.right.right.right.left.right.left.left.right.right st (kSeq r2 noonmarkref14_Letter_an.right.right.right.right.left.right.left (kBlk 0 (kSeq k0 noonmarkref14_Letter_an.right.right.right.right (kFin Try.prog noonmarkref14_Letter_rs Try.f46))))) noonmarkref14_Letter_an.right.right.right.right.left.right.left.left.right (kSeq r2 noonmarkref14_Letter_an.right.right.right.right.left.right.left (kBlk 0 (kSeq k0 noonmarkref14_Letter_an.right.right.right.right (kFin Try.prog noonmarkref14_Letter_rs Try.f46))))))) z := by kernel_rfl
theorem noonmarkref14_Letter_q2 (n : Nat) (k0 : St → Option (ByteArray × Unit)) (r2 : St → Option (ByteArray × Unit)) (z : noonmarkref14_Letter_t2) : codeK Try.prog noonmarkref14_Letter_sp n (cl (cl (cr (cl (cr (cr (cr (cr (bodyOf Try.f46))))))))) noonmarkref14_Letter_an.right.right.right.right.left.right.left.left (noonmarkref14_Letter_m2 z) (kSeq r2 noonmarkref14_Letter_an.right.right.right.right.left.right.left (kBlk 0 (kSeq k0 noonmarkref14_Letter_an.right.right.right.right (kFin Try.prog noonmarkref14_Letter_rs Try.f46)))) = noonmarkref14_Letter_s2 n (fun y => k0 (noonmarkref14_Letter_m0 y)) (fun y => r2 (noonmarkref14_Letter_m2 y)) z := by
  have h3 : (fun y => codeK Try.prog noonmarkref14_Letter_sp n (cr (cr (cl (cl (cr (cl (cr (cr (cr (cr (bodyOf Try.f46))))))))))) noonmarkref14_Letter_an.right.right.right.right.left.right.left.left.right.right (noonmarkref14_Letter_m3 y) (kSeq r2 noonmarkref14_Letter_an.right.right.right.right.left.right.left (kBlk 0 (kSeq k0 noonmarkref14_Letter_an.right.right.right.right (kFin Try.prog noonmarkref14_Letter_rs Try.f46))))) = (noonmarkref14_Letter_s3 n (fun y => k0 (noonmarkref14_Letter_m0 y)) (fun y => r2 (noonmarkref14_Letter_m2 y))) := funext fun y => by
    have := noonmarkref14_Letter_q3 n k0 r2 y
    exact this
  have h4 : (fun y => codeK Try.prog noonmarkref14_Letter_sp n (cr (cr (cr (cl (cl (cr (cl (cl (cr (cl (cr (cr (cr (cr (bodyOf Try.f46))))))))))))))) noonmarkref14_Letter_an.right.right.right.right.left.right.left.left.right.left.left.right.right.right (noonmarkref14_Letter_m4 y) (kBlk 1 (kSeq (fun st => codeK Try.prog noonmarkref14_Letter_sp n (cr (cr (cl (cl (cr (cl (cr (cr (cr (cr (bodyOf Try.f46))))))))))) noonmarkref14_Letter_an.right.right.right.right.left.right.left.left.right.right st (kSeq r2 noonmarkref14_Letter_an.right.right.right.right.left.right.left (kBlk 0 (kSeq k0 noonmarkref14_Letter_an.right.right.right.right (kFin Try.prog noonmarkref14_Letter_rs Try.f46))))) noonmarkref14_Letter_an.right.right.right.right.left.right.left.left.right (kSeq r2 noonmarkref14_Letter_an.right.right.right.right.left.right.left (kBlk 0 (kSeq k0 noonmarkref14_Letter_an.right.right.right.right (kFin Try.prog noonmarkref14_Letter_rs Try.f46))))))) = (noonmarkref14_Letter_s4 n (fun y => k0 (noonmarkref14_Letter_m0 y)) (fun y => r2 (noonmarkref14_Letter_m2 y)) (noonmarkref14_Letter_s3 n (fun y => k0 (noonmarkref14_Letter_m0 y)) (fun y => r2 (noonmarkref14_Letter_m2 y)))) := funext fun y => by
    have := noonmarkref14_Letter_q4 n k0 r2 (fun st => codeK Try.prog noonmarkref14_Letter_sp n (cr (cr (cl (cl (cr (cl (cr (cr (cr (cr (bodyOf Try.f46))))))))))) noonmarkref14_Letter_an.right.right.right.right.left.right.left.left.right.right st (kSeq r2 noonmarkref14_Letter_an.right.right.right.right.left.right.left (kBlk 0 (kSeq k0 noonmarkref14_Letter_an.right.right.right.right (kFin Try.prog noonmarkref14_Letter_rs Try.f46))))) y
    rw [h3] at this; exact this
  rw [codeK_R, noonmarkref14_Letter_e2]
  rw [h3]
  rw [h4]
  rfl
def noonmarkref14_Letter_s1 (n : Nat) (k0 : noonmarkref14_Letter_t0 → Option (ByteArray × Unit)) (z : noonmarkref14_Letter_t1) : Option (ByteArray × Unit) :=
  rounds (fun r2 x' => noonmarkref14_Letter_s2 n k0 r2 x') n (z.1, z.2.1, z.2.2.1, z.2.2.2.1, z.2.2.2.2)
theorem noonmarkref14_Letter_q1 (n : Nat) (k0 : St → Option (ByteArray × Unit)) (z : noonmarkref14_Letter_t1) : codeK Try.prog noonmarkref14_Letter_sp n (cr (cl (cr (cr (cr (cr (bodyOf Try.f46))))))) noonmarkref14_Letter_an.right.right.right.right.left.right (noonmarkref14_Letter_m1 z) (kSeq k0 noonmarkref14_Letter_an.right.right.right.right (kFin Try.prog noonmarkref14_Letter_rs Try.f46)) = noonmarkref14_Letter_s1 n (fun y => k0 (noonmarkref14_Letter_m0 y)) z :=
  Eq.trans (b := rounds (fun r2 st => codeK Try.prog noonmarkref14_Letter_sp n (cl (cl (cr (cl (cr (cr (cr (cr (bodyOf Try.f46))))))))) noonmarkref14_Letter_an.right.right.right.right.left.right.left.left st (kSeq r2 noonmarkref14_Letter_an.right.right.right.right.left.right.left (kBlk 0 (kSeq k0 noonmarkref14_Letter_an.right.right.right.right (kFin Try.prog noonmarkref14_Letter_rs Try.f46))))) n (noonmarkref14_Letter_m2 (z.1, z.2.1, z.2.2.1, z.2.2.2.1, z.2.2.2.2))) (by kernel_rfl) (rounds_mk noonmarkref14_Letter_m2 (fun r2 x' => by
    have := (noonmarkref14_Letter_q2 n k0 r2 x')
    exact this) n _)
def noonmarkref14_Letter_px (_n : Nat) (k0 : noonmarkref14_Letter_t0 → Option (ByteArray × Unit)) (k1 : noonmarkref14_Letter_t1 → Option (ByteArray × Unit)) (x : ((List D_api_Rule) × Unit)) : Option (ByteArray × Unit) :=
  k1 (x.1, (⟨#[]⟩ : ByteArray), false, (0 : Int), ((0 : Int), ((0 : Int), ((0 : Int), ((0 : Int), ())))))
def noonmarkref14_Letter (n : Nat) (x : ((List D_api_Rule) × Unit)) : Option (ByteArray × Unit) := noonmarkref14_Letter_px n (noonmarkref14_Letter_s0 n) (noonmarkref14_Letter_s1 n (noonmarkref14_Letter_s0 n)) x
theorem noonmarkref14_Letter_ex (n : Nat) (rc : Code → An → St → (Ex → St → Option (ByteArray × Unit)) → Option (ByteArray × Unit)) (x : ((List D_api_Rule) × Unit)) : codeR rc Try.prog noonmarkref14_Letter_sp n (bodyOf Try.f46) noonmarkref14_Letter_an (start noonmarkref14_Letter_ps x (Func.ntmps Try.f46)) (kFin Try.prog noonmarkref14_Letter_rs Try.f46) = noonmarkref14_Letter_px n (fun y => rc (cr (cr (cr (cr (cr (bodyOf Try.f46)))))) noonmarkref14_Letter_an.right.right.right.right.right (noonmarkref14_Letter_m0 y) (kFin Try.prog noonmarkref14_Letter_rs Try.f46)) (fun y => rc (cr (cl (cr (cr (cr (cr (bodyOf Try.f46))))))) noonmarkref14_Letter_an.right.right.right.right.left.right (noonmarkref14_Letter_m1 y) (kSeq (fun st => rc (cr (cr (cr (cr (cr (bodyOf Try.f46)))))) noonmarkref14_Letter_an.right.right.right.right.right st (kFin Try.prog noonmarkref14_Letter_rs Try.f46)) noonmarkref14_Letter_an.right.right.right.right (kFin Try.prog noonmarkref14_Letter_rs Try.f46))) x := by kernel_rfl
theorem noonmarkref14_Letter_qx (n : Nat) (x : ((List D_api_Rule) × Unit)) : codeK Try.prog noonmarkref14_Letter_sp n (bodyOf Try.f46) noonmarkref14_Letter_an (start noonmarkref14_Letter_ps x (Func.ntmps Try.f46)) (kFin Try.prog noonmarkref14_Letter_rs Try.f46) = noonmarkref14_Letter n x := by
  have h0 : (fun y => codeK Try.prog noonmarkref14_Letter_sp n (cr (cr (cr (cr (cr (bodyOf Try.f46)))))) noonmarkref14_Letter_an.right.right.right.right.right (noonmarkref14_Letter_m0 y) (kFin Try.prog noonmarkref14_Letter_rs Try.f46)) = (noonmarkref14_Letter_s0 n) := funext fun y => by
    have := noonmarkref14_Letter_q0 n  y
    exact this
  have h1 : (fun y => codeK Try.prog noonmarkref14_Letter_sp n (cr (cl (cr (cr (cr (cr (bodyOf Try.f46))))))) noonmarkref14_Letter_an.right.right.right.right.left.right (noonmarkref14_Letter_m1 y) (kSeq (fun st => codeK Try.prog noonmarkref14_Letter_sp n (cr (cr (cr (cr (cr (bodyOf Try.f46)))))) noonmarkref14_Letter_an.right.right.right.right.right st (kFin Try.prog noonmarkref14_Letter_rs Try.f46)) noonmarkref14_Letter_an.right.right.right.right (kFin Try.prog noonmarkref14_Letter_rs Try.f46))) = (noonmarkref14_Letter_s1 n (noonmarkref14_Letter_s0 n)) := funext fun y => by
    have := noonmarkref14_Letter_q1 n (fun st => codeK Try.prog noonmarkref14_Letter_sp n (cr (cr (cr (cr (cr (bodyOf Try.f46)))))) noonmarkref14_Letter_an.right.right.right.right.right st (kFin Try.prog noonmarkref14_Letter_rs Try.f46)) y
    rw [h0] at this; exact this
  rw [codeK_R, noonmarkref14_Letter_ex]
  rw [h0]
  rw [h1]
  rfl
def noonmarkref14_Letter_spec : Sp := ⟨noonmarkref14_Letter_ps, noonmarkref14_Letter_rs, noonmarkref14_Letter⟩
theorem noonmarkref14_Letter_ok : SoundX Try.prog CX 46 (.f noonmarkref14_Letter_spec) := sound_of (look_cons noonmarkref14_year_ok (look_cons noonmarkref14_before_ok look_nil)) Try.func46 (by kernel_rfl) rfl noonmarkref14_Letter_an noonmarkref14_Letter_spec rfl rfl noonmarkref14_Letter_qx
end Go.Proofs.YtadamegddcadcaaPi
