import Derived.Test.YtadamegddcadcaaPiB
import Derived.Test.YtadamegddcadcaaProg
set_option linter.unusedVariables false
set_option maxRecDepth 100000
set_option maxHeartbeats 4000000
set_option linter.unusedVariables false
namespace Go.Proofs.YtadamegddcadcaaPi
open Go Go.Proofs
def CX : Ctx := ⟨fun _ => True, fun _ _ => trivial, true⟩
abbrev T_api_At : Ty := (.pair (.int .i64) (.pair (.int .i64) .unit))
abbrev D_api_At := (Int × (Int × Unit))
abbrev T_api_Day : Ty := (.pair (.int .i64) T_api_At)
abbrev D_api_Day := (Int × D_api_At)
abbrev T_expand_Fire : Ty := (.pair (.int .i64) T_api_Day)
abbrev D_expand_Fire := (Int × D_api_Day)
/-! ### cmp.Or[int] -/
abbrev cmp_Or_int_ps : Ty := (.pair (.list (.int .i64)) .unit)
abbrev cmp_Or_int_rs : Ty := (.pair (.int .i64) .unit)
def cmp_Or_int_sp : Specs := look []
def cmp_Or_int_an : An := (.s .o (.s .o (.k [] [3] 0 (.k [] [3,6,7,8] 0 .o (.b (.l [] [3,6,7,8] 0 .o))) .o)))
abbrev cmp_Or_int_t0 := Int
def cmp_Or_int_m0 (z : cmp_Or_int_t0) : St := ⟨[.junk, .junk, .junk, .v ⟨(.int .i64), z⟩, .junk, .junk, .junk, .junk, .junk, .junk, .junk, .junk, .junk, .junk, .junk, .junk, .junk, .junk], []⟩
abbrev cmp_Or_int_t1 := Int × (List Int) × Int × Int
def cmp_Or_int_m1 (z : cmp_Or_int_t1) : St := ⟨[.junk, .junk, .junk, .v ⟨(.int .i64), z.1⟩, .junk, .junk, .v ⟨(.list (.int .i64)), z.2.1⟩, .v ⟨(.int .i64), z.2.2.1⟩, .v ⟨(.int .i64), z.2.2.2⟩, .junk, .junk, .junk, .junk, .junk, .junk, .junk, .junk, .junk], []⟩
abbrev cmp_Or_int_t2 := Int × (List Int) × Int × Int
def cmp_Or_int_m2 (z : cmp_Or_int_t2) : St := ⟨[.junk, .junk, .junk, .v ⟨(.int .i64), z.1⟩, .junk, .junk, .v ⟨(.list (.int .i64)), z.2.1⟩, .v ⟨(.int .i64), z.2.2.1⟩, .v ⟨(.int .i64), z.2.2.2⟩, .junk, .junk, .junk, .junk, .junk, .junk, .junk, .junk, .junk], []⟩
def cmp_Or_int_p0 (_n : Nat) (z : cmp_Or_int_t0) : Option (Int × Unit) :=
  some (z, ())
def cmp_Or_int_s0 (n : Nat) (z : cmp_Or_int_t0) : Option (Int × Unit) := cmp_Or_int_p0 n z
theorem cmp_Or_int_e0 (n : Nat) (rc : Code → An → St → (Ex → St → Option (Int × Unit)) → Option (Int × Unit)) (z : cmp_Or_int_t0) : codeR rc Try.prog cmp_Or_int_sp n (cr (cr (cr (bodyOf Try.f68)))) cmp_Or_int_an.right.right.right (cmp_Or_int_m0 z) (kFin Try.prog cmp_Or_int_rs Try.f68) = cmp_Or_int_p0 n z := by kernel_rfl
theorem cmp_Or_int_q0 (n : Nat) (z : cmp_Or_int_t0) : codeK Try.prog cmp_Or_int_sp n (cr (cr (cr (bodyOf Try.f68)))) cmp_Or_int_an.right.right.right (cmp_Or_int_m0 z) (kFin Try.prog cmp_Or_int_rs Try.f68) = cmp_Or_int_s0 n z := by
  rw [codeK_R, cmp_Or_int_e0]
  rfl
def cmp_Or_int_p2 (_n : Nat) (k0 : cmp_Or_int_t0 → Option (Int × Unit)) (r2 : cmp_Or_int_t2 → Option (Int × Unit)) (z : cmp_Or_int_t2) : Option (Int × Unit) :=
  bif (decide (z.2.2.2 < z.2.2.1)) then
    bif decide (0 ≤ z.2.2.2) then
      ((z.2.1[Int.toNat z.2.2.2]?)).bind fun e1 =>
      bif (e1 != z.1) then
        some (e1, ())
      else
        r2 (z.1, z.2.1, z.2.2.1, (w64 (z.2.2.2 + 1)))
    else none
  else
    k0 z.1
def cmp_Or_int_s2 (n : Nat) (k0 : cmp_Or_int_t0 → Option (Int × Unit)) (r2 : cmp_Or_int_t2 → Option (Int × Unit)) (z : cmp_Or_int_t2) : Option (Int × Unit) := cmp_Or_int_p2 n k0 r2 z
theorem cmp_Or_int_e2 (n : Nat) (k0 : St → Option (Int × Unit)) (r2 : St → Option (Int × Unit)) (rc : Code → An → St → (Ex → St → Option (Int × Unit)) → Option (Int × Unit)) (z : cmp_Or_int_t2) : codeR rc Try.prog cmp_Or_int_sp n (cl (cl (cr (cl (cr (cr (bodyOf Try.f68))))))) cmp_Or_int_an.right.right.left.right.left.left (cmp_Or_int_m2 z) (kSeq r2 cmp_Or_int_an.right.right.left.right.left (kBlk 0 (kSeq k0 cmp_Or_int_an.right.right (kFin Try.prog cmp_Or_int_rs Try.f68)))) = cmp_Or_int_p2 n (fun y => k0 (cmp_Or_int_m0 y)) (fun y => r2 (cmp_Or_int_m2 y)) z := by kernel_rfl
theorem cmp_Or_int_q2 (n : Nat) (k0 : St → Option (Int × Unit)) (r2 : St → Option (Int × Unit)) (z : cmp_Or_int_t2) : codeK Try.prog cmp_Or_int_sp n (cl (cl (cr (cl (cr (cr (bodyOf Try.f68))))))) cmp_Or_int_an.right.right.left.right.left.left (cmp_Or_int_m2 z) (kSeq r2 cmp_Or_int_an.right.right.left.right.left (kBlk 0 (kSeq k0 cmp_Or_int_an.right.right (kFin Try.prog cmp_Or_int_rs Try.f68)))) = cmp_Or_int_s2 n (fun y => k0 (cmp_Or_int_m0 y)) (fun y => r2 (cmp_Or_int_m2 y)) z := by
  rw [codeK_R, cmp_Or_int_e2]
  rfl
def cmp_Or_int_s1 (n : Nat) (k0 : cmp_Or_int_t0 → Option (Int × Unit)) (z : cmp_Or_int_t1) : Option (Int × Unit) :=
  rounds (fun r2 x' => cmp_Or_int_s2 n k0 r2 x') n (z.1, z.2.1, z.2.2.1, z.2.2.2)
theorem cmp_Or_int_q1 (n : Nat) (k0 : St → Option (Int × Unit)) (z : cmp_Or_int_t1) : codeK Try.prog cmp_Or_int_sp n (cr (cl (cr (cr (bodyOf Try.f68))))) cmp_Or_int_an.right.right.left.right (cmp_Or_int_m1 z) (kSeq k0 cmp_Or_int_an.right.right (kFin Try.prog cmp_Or_int_rs Try.f68)) = cmp_Or_int_s1 n (fun y => k0 (cmp_Or_int_m0 y)) z :=
  Eq.trans (b := rounds (fun r2 st => codeK Try.prog cmp_Or_int_sp n (cl (cl (cr (cl (cr (cr (bodyOf Try.f68))))))) cmp_Or_int_an.right.right.left.right.left.left st (kSeq r2 cmp_Or_int_an.right.right.left.right.left (kBlk 0 (kSeq k0 cmp_Or_int_an.right.right (kFin Try.prog cmp_Or_int_rs Try.f68))))) n (cmp_Or_int_m2 (z.1, z.2.1, z.2.2.1, z.2.2.2))) (by kernel_rfl) (rounds_mk cmp_Or_int_m2 (fun r2 x' => by
    have := (cmp_Or_int_q2 n k0 r2 x')
    exact this) n _)
def cmp_Or_int_px (_n : Nat) (k0 : cmp_Or_int_t0 → Option (Int × Unit)) (k1 : cmp_Or_int_t1 → Option (Int × Unit)) (x : ((List Int) × Unit)) : Option (Int × Unit) :=
  k1 ((0 : Int), x.1, (List.length x.1 : Int), (0 : Int))
def cmp_Or_int (n : Nat) (x : ((List Int) × Unit)) : Option (Int × Unit) := cmp_Or_int_px n (cmp_Or_int_s0 n) (cmp_Or_int_s1 n (cmp_Or_int_s0 n)) x
theorem cmp_Or_int_ex (n : Nat) (rc : Code → An → St → (Ex → St → Option (Int × Unit)) → Option (Int × Unit)) (x : ((List Int) × Unit)) : codeR rc Try.prog cmp_Or_int_sp n (bodyOf Try.f68) cmp_Or_int_an (start cmp_Or_int_ps x (Func.ntmps Try.f68)) (kFin Try.prog cmp_Or_int_rs Try.f68) = cmp_Or_int_px n (fun y => rc (cr (cr (cr (bodyOf Try.f68)))) cmp_Or_int_an.right.right.right (cmp_Or_int_m0 y) (kFin Try.prog cmp_Or_int_rs Try.f68)) (fun y => rc (cr (cl (cr (cr (bodyOf Try.f68))))) cmp_Or_int_an.right.right.left.right (cmp_Or_int_m1 y) (kSeq (fun st => rc (cr (cr (cr (bodyOf Try.f68)))) cmp_Or_int_an.right.right.right st (kFin Try.prog cmp_Or_int_rs Try.f68)) cmp_Or_int_an.right.right (kFin Try.prog cmp_Or_int_rs Try.f68))) x := by kernel_rfl
theorem cmp_Or_int_qx (n : Nat) (x : ((List Int) × Unit)) : codeK Try.prog cmp_Or_int_sp n (bodyOf Try.f68) cmp_Or_int_an (start cmp_Or_int_ps x (Func.ntmps Try.f68)) (kFin Try.prog cmp_Or_int_rs Try.f68) = cmp_Or_int n x := by
  have h0 : (fun y => codeK Try.prog cmp_Or_int_sp n (cr (cr (cr (bodyOf Try.f68)))) cmp_Or_int_an.right.right.right (cmp_Or_int_m0 y) (kFin Try.prog cmp_Or_int_rs Try.f68)) = (cmp_Or_int_s0 n) := funext fun y => by
    have := cmp_Or_int_q0 n  y
    exact this
  have h1 : (fun y => codeK Try.prog cmp_Or_int_sp n (cr (cl (cr (cr (bodyOf Try.f68))))) cmp_Or_int_an.right.right.left.right (cmp_Or_int_m1 y) (kSeq (fun st => codeK Try.prog cmp_Or_int_sp n (cr (cr (cr (bodyOf Try.f68)))) cmp_Or_int_an.right.right.right st (kFin Try.prog cmp_Or_int_rs Try.f68)) cmp_Or_int_an.right.right (kFin Try.prog cmp_Or_int_rs Try.f68))) = (cmp_Or_int_s1 n (cmp_Or_int_s0 n)) := funext fun y => by
    have := cmp_Or_int_q1 n (fun st => codeK Try.prog cmp_Or_int_sp n (cr (cr (cr (bodyOf Try.f68)))) cmp_Or_int_an.right.right.right st (kFin Try.prog cmp_Or_int_rs Try.f68)) y
    rw [h0] at this; exact this
  rw [codeK_R, cmp_Or_int_ex]
  rw [h0]
  rw [h1]
  rfl
def cmp_Or_int_spec : Sp := ⟨cmp_Or_int_ps, cmp_Or_int_rs, cmp_Or_int⟩
theorem cmp_Or_int_ok : SoundX Try.prog CX 68 (.f cmp_Or_int_spec) := sound_of look_nil Try.func68 (by kernel_rfl) rfl cmp_Or_int_an cmp_Or_int_spec rfl rfl cmp_Or_int_qx

/-! ### cmp.isNaN[int] -/
abbrev cmp_isNaN_int_ps : Ty := (.pair (.int .i64) .unit)
abbrev cmp_isNaN_int_rs : Ty := (.pair .bool .unit)
def cmp_isNaN_int_sp : Specs := look []
def cmp_isNaN_int_an : An := .o
def cmp_isNaN_int_px (_n : Nat) (x : (Int × Unit)) : Option (Bool × Unit) :=
  some ((x.1 != x.1), ())
def cmp_isNaN_int (n : Nat) (x : (Int × Unit)) : Option (Bool × Unit) := cmp_isNaN_int_px n x
theorem cmp_isNaN_int_ex (n : Nat) (rc : Code → An → St → (Ex → St → Option (Bool × Unit)) → Option (Bool × Unit)) (x : (Int × Unit)) : codeR rc Try.prog cmp_isNaN_int_sp n (bodyOf Try.f76) cmp_isNaN_int_an (start cmp_isNaN_int_ps x (Func.ntmps Try.f76)) (kFin Try.prog cmp_isNaN_int_rs Try.f76) = cmp_isNaN_int_px n x := by kernel_rfl
theorem cmp_isNaN_int_qx (n : Nat) (x : (Int × Unit)) : codeK Try.prog cmp_isNaN_int_sp n (bodyOf Try.f76) cmp_isNaN_int_an (start cmp_isNaN_int_ps x (Func.ntmps Try.f76)) (kFin Try.prog cmp_isNaN_int_rs Try.f76) = cmp_isNaN_int n x := by
  rw [codeK_R, cmp_isNaN_int_ex]
  rfl
def cmp_isNaN_int_spec : Sp := ⟨cmp_isNaN_int_ps, cmp_isNaN_int_rs, cmp_isNaN_int⟩
theorem cmp_isNaN_int_ok : SoundX Try.prog CX 76 (.f cmp_isNaN_int_spec) := sound_of look_nil Try.func76 (by kernel_rfl) rfl cmp_isNaN_int_an cmp_isNaN_int_spec rfl rfl cmp_isNaN_int_qx

/-! ### cmp.Compare[int] -/
abbrev cmp_Compare_int_ps : Ty := T_api_At
abbrev cmp_Compare_int_rs : Ty := (.pair (.int .i64) .unit)
def cmp_Compare_int_sp : Specs := look [(76, .f cmp_isNaN_int_spec)]
def cmp_Compare_int_an : An := .o
def cmp_Compare_int_px (n : Nat) (x : D_api_At) : Option (Int × Unit) :=
  ((cmp_isNaN_int n (x.1, ()))).bind fun v1 =>
  ((cmp_isNaN_int n (x.2.1, ()))).bind fun v2 =>
  bif v1.1 then
    bif v2.1 then
      some ((0 : Int), ())
    else
      some ((-1 : Int), ())
  else
    bif v2.1 then
      some ((1 : Int), ())
    else
      bif (decide (x.1 < x.2.1)) then
        some ((-1 : Int), ())
      else
        bif (decide (x.1 > x.2.1)) then
          some ((1 : Int), ())
        else
          some ((0 : Int), ())
def cmp_Compare_int (n : Nat) (x : D_api_At) : Option (Int × Unit) := cmp_Compare_int_px n x
theorem cmp_Compare_int_ex (n : Nat) (rc : Code → An → St → (Ex → St → Option (Int × Unit)) → Option (Int × Unit)) (x : D_api_At) : codeR rc Try.prog cmp_Compare_int_sp n (bodyOf Try.f69) cmp_Compare_int_an (start cmp_Compare_int_ps x (Func.ntmps Try.f69)) (kFin Try.prog cmp_Compare_int_rs Try.f69) = cmp_Compare_int_px n x := by kernel_rfl
theorem cmp_Compare_int_qx (n : Nat) (x : D_api_At) : codeK Try.prog cmp_Compare_int_sp n (bodyOf Try.f69) cmp_Compare_int_an (start cmp_Compare_int_ps x (Func.ntmps Try.f69)) (kFin Try.prog cmp_Compare_int_rs Try.f69) = cmp_Compare_int n x := by
  rw [codeK_R, cmp_Compare_int_ex]
  rfl
def cmp_Compare_int_spec : Sp := ⟨cmp_Compare_int_ps, cmp_Compare_int_rs, cmp_Compare_int⟩
theorem cmp_Compare_int_ok : SoundX Try.prog CX 69 (.f cmp_Compare_int_spec) := sound_of (look_cons cmp_isNaN_int_ok look_nil) Try.func69 (by kernel_rfl) rfl cmp_Compare_int_an cmp_Compare_int_spec rfl rfl cmp_Compare_int_qx

/-! ### cmp.isNaN[int64] -/
abbrev cmp_isNaN_int64_ps : Ty := (.pair (.int .i64) .unit)
abbrev cmp_isNaN_int64_rs : Ty := (.pair .bool .unit)
def cmp_isNaN_int64_sp : Specs := look []
def cmp_isNaN_int64_an : An := .o
def cmp_isNaN_int64_px (_n : Nat) (x : (Int × Unit)) : Option (Bool × Unit) :=
  some ((x.1 != x.1), ())
def cmp_isNaN_int64 (n : Nat) (x : (Int × Unit)) : Option (Bool × Unit) := cmp_isNaN_int64_px n x
theorem cmp_isNaN_int64_ex (n : Nat) (rc : Code → An → St → (Ex → St → Option (Bool × Unit)) → Option (Bool × Unit)) (x : (Int × Unit)) : codeR rc Try.prog cmp_isNaN_int64_sp n (bodyOf Try.f77) cmp_isNaN_int64_an (start cmp_isNaN_int64_ps x (Func.ntmps Try.f77)) (kFin Try.prog cmp_isNaN_int64_rs Try.f77) = cmp_isNaN_int64_px n x := by kernel_rfl
theorem cmp_isNaN_int64_qx (n : Nat) (x : (Int × Unit)) : codeK Try.prog cmp_isNaN_int64_sp n (bodyOf Try.f77) cmp_isNaN_int64_an (start cmp_isNaN_int64_ps x (Func.ntmps Try.f77)) (kFin Try.prog cmp_isNaN_int64_rs Try.f77) = cmp_isNaN_int64 n x := by
  rw [codeK_R, cmp_isNaN_int64_ex]
  rfl
def cmp_isNaN_int64_spec : Sp := ⟨cmp_isNaN_int64_ps, cmp_isNaN_int64_rs, cmp_isNaN_int64⟩
theorem cmp_isNaN_int64_ok : SoundX Try.prog CX 77 (.f cmp_isNaN_int64_spec) := sound_of look_nil Try.func77 (by kernel_rfl) rfl cmp_isNaN_int64_an cmp_isNaN_int64_spec rfl rfl cmp_isNaN_int64_qx

/-! ### cmp.Compare[int64] -/
abbrev cmp_Compare_int64_ps : Ty := T_api_At
abbrev cmp_Compare_int64_rs : Ty := (.pair (.int .i64) .unit)
def cmp_Compare_int64_sp : Specs := look [(77, .f cmp_isNaN_int64_spec)]
def cmp_Compare_int64_an : An := .o
def cmp_Compare_int64_px (n : Nat) (x : D_api_At) : Option (Int × Unit) :=
  ((cmp_isNaN_int64 n (x.1, ()))).bind fun v1 =>
  ((cmp_isNaN_int64 n (x.2.1, ()))).bind fun v2 =>
  bif v1.1 then
    bif v2.1 then
      some ((0 : Int), ())
    else
      some ((-1 : Int), ())
  else
    bif v2.1 then
      some ((1 : Int), ())
    else
      bif (decide (x.1 < x.2.1)) then
        some ((-1 : Int), ())
      else
        bif (decide (x.1 > x.2.1)) then
          some ((1 : Int), ())
        else
          some ((0 : Int), ())
def cmp_Compare_int64 (n : Nat) (x : D_api_At) : Option (Int × Unit) := cmp_Compare_int64_px n x
theorem cmp_Compare_int64_ex (n : Nat) (rc : Code → An → St → (Ex → St → Option (Int × Unit)) → Option (Int × Unit)) (x : D_api_At) : codeR rc Try.prog cmp_Compare_int64_sp n (bodyOf Try.f70) cmp_Compare_int64_an (start cmp_Compare_int64_ps x (Func.ntmps Try.f70)) (kFin Try.prog cmp_Compare_int64_rs Try.f70) = cmp_Compare_int64_px n x := by kernel_rfl
theorem cmp_Compare_int64_qx (n : Nat) (x : D_api_At) : codeK Try.prog cmp_Compare_int64_sp n (bodyOf Try.f70) cmp_Compare_int64_an (start cmp_Compare_int64_ps x (Func.ntmps Try.f70)) (kFin Try.prog cmp_Compare_int64_rs Try.f70) = cmp_Compare_int64 n x := by
  rw [codeK_R, cmp_Compare_int64_ex]
  rfl
def cmp_Compare_int64_spec : Sp := ⟨cmp_Compare_int64_ps, cmp_Compare_int64_rs, cmp_Compare_int64⟩
theorem cmp_Compare_int64_ok : SoundX Try.prog CX 70 (.f cmp_Compare_int64_spec) := sound_of (look_cons cmp_isNaN_int64_ok look_nil) Try.func70 (by kernel_rfl) rfl cmp_Compare_int64_an cmp_Compare_int64_spec rfl rfl cmp_Compare_int64_qx

/-! ### noonmark/expand.order -/
abbrev expand_order_ps : Ty := (.pair T_expand_Fire (.pair T_expand_Fire .unit))
abbrev expand_order_rs : Ty := (.pair (.int .i64) .unit)
def expand_order_sp : Specs := look [(68, .f cmp_Or_int_spec), (69, .f cmp_Compare_int_spec), (70, .f cmp_Compare_int64_spec)]
def expand_order_an : An := .o
def expand_order_px (n : Nat) (x : (D_expand_Fire × (D_expand_Fire × Unit))) : Option (Int × Unit) :=
  ((cmp_Compare_int n (x.1.2.1, (x.2.1.2.1, ())))).bind fun v1 =>
  ((cmp_Compare_int64 n (x.1.2.2.1, (x.2.1.2.2.1, ())))).bind fun v2 =>
  ((cmp_Compare_int n (x.1.1, (x.2.1.1, ())))).bind fun v3 =>
  ((cmp_Or_int n (((v1.1 :: v2.1 :: v3.1 :: [])), ()))).bind fun v5 =>
  some (v5.1, ())
def expand_order (n : Nat) (x : (D_expand_Fire × (D_expand_Fire × Unit))) : Option (Int × Unit) := expand_order_px n x
theorem expand_order_ex (n : Nat) (rc : Code → An → St → (Ex → St → Option (Int × Unit)) → Option (Int × Unit)) (x : (D_expand_Fire × (D_expand_Fire × Unit))) : codeR rc Try.prog expand_order_sp n (bodyOf Try.f55) expand_order_an (start expand_order_ps x (Func.ntmps Try.f55)) (kFin Try.prog expand_order_rs Try.f55) = expand_order_px n x := by kernel_rfl
theorem expand_order_qx (n : Nat) (x : (D_expand_Fire × (D_expand_Fire × Unit))) : codeK Try.prog expand_order_sp n (bodyOf Try.f55) expand_order_an (start expand_order_ps x (Func.ntmps Try.f55)) (kFin Try.prog expand_order_rs Try.f55) = expand_order n x := by
  rw [codeK_R, expand_order_ex]
  rfl
def expand_order_spec : Sp := ⟨expand_order_ps, expand_order_rs, expand_order⟩
theorem expand_order_ok : SoundX Try.prog CX 55 (.f expand_order_spec) := sound_of (look_cons cmp_Or_int_ok (look_cons cmp_Compare_int_ok (look_cons cmp_Compare_int64_ok look_nil))) Try.func55 (by kernel_rfl) rfl expand_order_an expand_order_spec rfl rfl expand_order_qx
end Go.Proofs.YtadamegddcadcaaPi
