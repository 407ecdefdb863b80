import Derived.Test.YtadamegddcadcaaDoorDig
set_option linter.unusedVariables false
set_option maxRecDepth 100000
set_option maxHeartbeats 4000000
set_option linter.unusedVariables false
namespace Go.Proofs.YtadamegddcadcaaDoorPi
open Go Go.Proofs
abbrev T_api_At : Ty := (.pair (.int .i64) (.pair (.int .i64) .unit))
abbrev T_api_Local : Ty := (.pair (.int .i64) (.pair .bool (.pair .str .unit)))
abbrev T_noonmarkref15_State : Ty := (.pair (.int .i64) (.pair (.int .i64) (.pair .str .unit)))
abbrev T_api_Day : Ty := (.pair (.int .i64) T_api_At)
abbrev T_api_Until : Ty := (.pair .bool (.pair (.int .i64) (.pair (.int .i64) (.pair T_api_Day (.pair T_api_At .unit)))))
abbrev T_api_Era : Ty := (.pair (.int .i64) (.pair (.int .i64) (.pair (.int .i64) (.pair .str (.pair .str (.pair T_api_Until .unit))))))
/-! ### noonmark/noonmarkref16.two -/
abbrev f47_ps : Ty := (.pair (.int .i64) .unit)
abbrev f47_rs : Ty := (.pair .str .unit)
def f47_sp : Specs := look []
def f47_an : An := .o
def f47_px (_n : Nat) (x : f47_ps.den) : Option f47_rs.den :=
  some ((ofBytes (((w8 (w64 (48 + (Int.tmod (w64 (Int.tdiv x.1 (10 : Int))) (10 : Int))))) :: (w8 (w64 (48 + (Int.tmod x.1 (10 : Int))))) :: []))), ())
def f47 (n : Nat) (x : f47_ps.den) : Option f47_rs.den := f47_px n x
theorem f47_ex (n : Nat) (rc : Code → An → St → (Ex → St → Option f47_rs.den) → Option f47_rs.den) (x : f47_ps.den) : codeR rc Tryd.prog f47_sp n (bodyOf Tryd.f47) f47_an (start f47_ps x (Func.ntmps Tryd.f47)) (kFin Tryd.prog f47_rs Tryd.f47) = f47_px n x := by kernel_rfl
theorem f47_qx (n : Nat) (x : f47_ps.den) : codeK Tryd.prog f47_sp n (bodyOf Tryd.f47) f47_an (start f47_ps x (Func.ntmps Tryd.f47)) (kFin Tryd.prog f47_rs Tryd.f47) = f47 n x := by
  rw [codeK_R, f47_ex]
  rfl
def f47_spec : Sp := ⟨f47_ps, f47_rs, f47⟩
theorem f47_ok : Sound Tryd.prog CG 47 f47_spec := sound_of look_nil Tryd.func47 (by kernel_rfl) rfl f47_an f47_spec rfl rfl f47_qx

/-! ### noonmark/noonmarkref16.Digits -/
abbrev f34_ps : Ty := (.pair (.int .i64) .unit)
abbrev f34_rs : Ty := (.pair .str .unit)
def f34_sp : Specs := look [(47, f47_spec)]
def f34_an : An := (.s .o (.s .o (.k [0,3] 0 .o (.s .o (.k [0,3] 0 .o (.k [3] 0 .o .o))))))
abbrev f34_t0 := Int × ByteArray
def f34_m0 (z : f34_t0) : St := ⟨[.v ⟨(.int .i64), z.1⟩, .junk, .junk, .v ⟨.str, z.2⟩, .junk, .junk, .junk, .junk, .junk, .junk, .junk, .junk, .junk, .junk, .junk, .junk, .junk, .junk, .junk, .junk, .junk, .junk, .junk, .junk, .junk, .junk, .junk, .junk, .junk, .junk, .junk], []⟩
abbrev f34_t1 := Int × ByteArray
def f34_m1 (z : f34_t1) : St := ⟨[.v ⟨(.int .i64), z.1⟩, .junk, .junk, .v ⟨.str, z.2⟩, .junk, .junk, .junk, .junk, .junk, .junk, .junk, .junk, .junk, .junk, .junk, .junk, .junk, .junk, .junk, .junk, .junk, .junk, .junk, .junk, .junk, .junk, .junk, .junk, .junk, .junk, .junk], []⟩
abbrev f34_t2 := ByteArray
def f34_m2 (z : f34_t2) : St := ⟨[.junk, .junk, .junk, .v ⟨.str, z⟩, .junk, .junk, .junk, .junk, .junk, .junk, .junk, .junk, .junk, .junk, .junk, .junk, .junk, .junk, .junk, .junk, .junk, .junk, .junk, .junk, .junk, .junk, .junk, .junk, .junk, .junk, .junk], []⟩
def f34_p2 (_n : Nat) (z : f34_t2) : Option f34_rs.den :=
  some (z, ())
def f34_s2 (n : Nat) (z : f34_t2) : Option f34_rs.den := f34_p2 n z
theorem f34_e2 (n : Nat) (rc : Code → An → St → (Ex → St → Option f34_rs.den) → Option f34_rs.den) (z : f34_t2) : codeR rc Tryd.prog f34_sp n (cr (cr (cr (cr (cr (cr (bodyOf Tryd.f34))))))) f34_an.right.right.right.right.right.right (f34_m2 z) (kFin Tryd.prog f34_rs Tryd.f34) = f34_p2 n z := by kernel_rfl
theorem f34_q2 (n : Nat) (z : f34_t2) : codeK Tryd.prog f34_sp n (cr (cr (cr (cr (cr (cr (bodyOf Tryd.f34))))))) f34_an.right.right.right.right.right.right (f34_m2 z) (kFin Tryd.prog f34_rs Tryd.f34) = f34_s2 n z := by
  rw [codeK_R, f34_e2]
  rfl
def f34_p1 (n : Nat) (k2 : f34_t2 → Option f34_rs.den) (z : f34_t1) : Option f34_rs.den :=
  bif ((Int.tmod z.1 (60 : Int)) != 0) then
    ((f47 n ((Int.tmod z.1 (60 : Int)), ()))).bind fun r12 =>
    bif decide (((ByteArray.size z.2 + ByteArray.size r12.1 : Nat) : Int) > IntKind.i64.max) then none else
    k2 (z.2 ++ r12.1)
  else
    k2 z.2
def f34_s1 (n : Nat) (z : f34_t1) : Option f34_rs.den := f34_p1 n (f34_s2 n) z
theorem f34_e1 (n : Nat) (rc : Code → An → St → (Ex → St → Option f34_rs.den) → Option f34_rs.den) (z : f34_t1) : codeR rc Tryd.prog f34_sp n (cr (cr (cr (cr (cr (bodyOf Tryd.f34)))))) f34_an.right.right.right.right.right (f34_m1 z) (kFin Tryd.prog f34_rs Tryd.f34) = f34_p1 n (fun y => rc (cr (cr (cr (cr (cr (cr (bodyOf Tryd.f34))))))) f34_an.right.right.right.right.right.right (f34_m2 y) (kFin Tryd.prog f34_rs Tryd.f34)) z := by kernel_rfl
theorem f34_q1 (n : Nat) (z : f34_t1) : codeK Tryd.prog f34_sp n (cr (cr (cr (cr (cr (bodyOf Tryd.f34)))))) f34_an.right.right.right.right.right (f34_m1 z) (kFin Tryd.prog f34_rs Tryd.f34) = f34_s1 n z := by
  have h2 : (fun y => codeK Tryd.prog f34_sp n (cr (cr (cr (cr (cr (cr (bodyOf Tryd.f34))))))) f34_an.right.right.right.right.right.right (f34_m2 y) (kFin Tryd.prog f34_rs Tryd.f34)) = (f34_s2 n) := funext fun y => by
    have := f34_q2 n  y
    exact this
  rw [codeK_R, f34_e1]
  rw [h2]
  rfl
def f34_p0 (n : Nat) (k1 : f34_t1 → Option f34_rs.den) (z : f34_t0) : Option f34_rs.den :=
  ((f47 n ((w64 (Int.tdiv z.1 (3600 : Int))), ()))).bind fun r3 =>
  bif decide (((ByteArray.size z.2 + ByteArray.size r3.1 : Nat) : Int) > IntKind.i64.max) then none else
  let t4 := z.2 ++ r3.1
  bif ((Int.tmod z.1 (3600 : Int)) != 0) then
    ((f47 n ((Int.tmod (w64 (Int.tdiv z.1 (60 : Int))) (60 : Int)), ()))).bind fun r8 =>
    bif decide (((ByteArray.size t4 + ByteArray.size r8.1 : Nat) : Int) > IntKind.i64.max) then none else
    k1 (z.1, (t4 ++ r8.1))
  else
    k1 (z.1, t4)
def f34_s0 (n : Nat) (z : f34_t0) : Option f34_rs.den := f34_p0 n (f34_s1 n) z
theorem f34_e0 (n : Nat) (rc : Code → An → St → (Ex → St → Option f34_rs.den) → Option f34_rs.den) (z : f34_t0) : codeR rc Tryd.prog f34_sp n (cr (cr (cr (bodyOf Tryd.f34)))) f34_an.right.right.right (f34_m0 z) (kFin Tryd.prog f34_rs Tryd.f34) = f34_p0 n (fun y => rc (cr (cr (cr (cr (cr (bodyOf Tryd.f34)))))) f34_an.right.right.right.right.right (f34_m1 y) (kFin Tryd.prog f34_rs Tryd.f34)) z := by kernel_rfl
theorem f34_q0 (n : Nat) (z : f34_t0) : codeK Tryd.prog f34_sp n (cr (cr (cr (bodyOf Tryd.f34)))) f34_an.right.right.right (f34_m0 z) (kFin Tryd.prog f34_rs Tryd.f34) = f34_s0 n z := by
  have h1 : (fun y => codeK Tryd.prog f34_sp n (cr (cr (cr (cr (cr (bodyOf Tryd.f34)))))) f34_an.right.right.right.right.right (f34_m1 y) (kFin Tryd.prog f34_rs Tryd.f34)) = (f34_s1 n) := funext fun y => by
    have := f34_q1 n  y
    exact this
  rw [codeK_R, f34_e0]
  rw [h1]
  rfl
def f34_px (_n : Nat) (k0 : f34_t0 → Option f34_rs.den) (x : f34_ps.den) : Option f34_rs.den :=
  bif (decide (x.1 < 0)) then
    k0 ((w64 (0 - x.1)), (⟨#[45]⟩ : ByteArray))
  else
    k0 (x.1, (⟨#[43]⟩ : ByteArray))
def f34 (n : Nat) (x : f34_ps.den) : Option f34_rs.den := f34_px n (f34_s0 n) x
theorem f34_ex (n : Nat) (rc : Code → An → St → (Ex → St → Option f34_rs.den) → Option f34_rs.den) (x : f34_ps.den) : codeR rc Tryd.prog f34_sp n (bodyOf Tryd.f34) f34_an (start f34_ps x (Func.ntmps Tryd.f34)) (kFin Tryd.prog f34_rs Tryd.f34) = f34_px n (fun y => rc (cr (cr (cr (bodyOf Tryd.f34)))) f34_an.right.right.right (f34_m0 y) (kFin Tryd.prog f34_rs Tryd.f34)) x := by kernel_rfl
theorem f34_qx (n : Nat) (x : f34_ps.den) : codeK Tryd.prog f34_sp n (bodyOf Tryd.f34) f34_an (start f34_ps x (Func.ntmps Tryd.f34)) (kFin Tryd.prog f34_rs Tryd.f34) = f34 n x := by
  have h0 : (fun y => codeK Tryd.prog f34_sp n (cr (cr (cr (bodyOf Tryd.f34)))) f34_an.right.right.right (f34_m0 y) (kFin Tryd.prog f34_rs Tryd.f34)) = (f34_s0 n) := funext fun y => by
    have := f34_q0 n  y
    exact this
  rw [codeK_R, f34_ex]
  rw [h0]
  rfl
def f34_spec : Sp := ⟨f34_ps, f34_rs, f34⟩
theorem f34_ok : Sound Tryd.prog CG 34 f34_spec := sound_of (look_cons f47_ok look_nil) Tryd.func34 (by kernel_rfl) rfl f34_an f34_spec rfl rfl f34_qx

/-! ### noonmark/noonmarkref16.Plain -/
abbrev f35_ps : Ty := (.pair .str .unit)
abbrev f35_rs : Ty := (.pair .bool .unit)
def f35_sp : Specs := look []
def f35_an : An := (.s .o (.s .o (.k [] 0 (.k [0,3] 0 .o (.b (.l [0,3] 0 .o))) .o)))
abbrev f35_t0 := Unit
def f35_m0 (_z : f35_t0) : St := ⟨[.junk, .junk, .junk, .junk, .junk, .junk, .junk, .junk, .junk, .junk, .junk, .junk, .junk, .junk, .junk, .junk, .junk, .junk, .junk, .junk, .junk, .junk, .junk, .junk, .junk, .junk, .junk, .junk, .junk, .junk, .junk, .junk, .junk, .junk, .junk, .junk, .junk, .junk, .junk, .junk, .junk, .junk, .junk, .junk, .junk, .junk, .junk, .junk, .junk, .junk, .junk, .junk, .junk], []⟩
abbrev f35_t1 := ByteArray × Int
def f35_m1 (z : f35_t1) : St := ⟨[.v ⟨.str, z.1⟩, .junk, .junk, .v ⟨(.int .i64), z.2⟩, .junk, .junk, .junk, .junk, .junk, .junk, .junk, .junk, .junk, .junk, .junk, .junk, .junk, .junk, .junk, .junk, .junk, .junk, .junk, .junk, .junk, .junk, .junk, .junk, .junk, .junk, .junk, .junk, .junk, .junk, .junk, .junk, .junk, .junk, .junk, .junk, .junk, .junk, .junk, .junk, .junk, .junk, .junk, .junk, .junk, .junk, .junk, .junk, .junk], []⟩
abbrev f35_t2 := ByteArray × Int
def f35_m2 (z : f35_t2) : St := ⟨[.v ⟨.str, z.1⟩, .junk, .junk, .v ⟨(.int .i64), z.2⟩, .junk, .junk, .junk, .junk, .junk, .junk, .junk, .junk, .junk, .junk, .junk, .junk, .junk, .junk, .junk, .junk, .junk, .junk, .junk, .junk, .junk, .junk, .junk, .junk, .junk, .junk, .junk, .junk, .junk, .junk, .junk, .junk, .junk, .junk, .junk, .junk, .junk, .junk, .junk, .junk, .junk, .junk, .junk, .junk, .junk, .junk, .junk, .junk, .junk], []⟩
def f35_p0 (_n : Nat) (_z : f35_t0) : Option f35_rs.den :=
  some (true, ())
def f35_s0 (n : Nat) (z : f35_t0) : Option f35_rs.den := f35_p0 n z
theorem f35_e0 (n : Nat) (rc : Code → An → St → (Ex → St → Option f35_rs.den) → Option f35_rs.den) (z : f35_t0) : codeR rc Tryd.prog f35_sp n (cr (cr (cr (bodyOf Tryd.f35)))) f35_an.right.right.right (f35_m0 z) (kFin Tryd.prog f35_rs Tryd.f35) = f35_p0 n z := by kernel_rfl
theorem f35_q0 (n : Nat) (z : f35_t0) : codeK Tryd.prog f35_sp n (cr (cr (cr (bodyOf Tryd.f35)))) f35_an.right.right.right (f35_m0 z) (kFin Tryd.prog f35_rs Tryd.f35) = f35_s0 n z := by
  rw [codeK_R, f35_e0]
  rfl
def f35_p2 (_n : Nat) (k0 : f35_t0 → Option f35_rs.den) (r2 : f35_t2 → Option f35_rs.den) (z : f35_t2) : Option f35_rs.den :=
  bif (decide (z.2 < (ByteArray.size z.1 : Int))) then
    bif decide (0 ≤ z.2) then
      ((z.1[Int.toNat z.2]?)).bind fun c1 =>
      bif (decide ((c1.toNat : Int) ≥ 97)) then
        bif (decide ((c1.toNat : Int) ≤ 122)) then
          r2 (z.1, (w64 (z.2 + 1)))
        else
          bif (decide ((c1.toNat : Int) ≥ 65)) then
            bif (decide ((c1.toNat : Int) ≤ 90)) then
              r2 (z.1, (w64 (z.2 + 1)))
            else
              bif (decide ((c1.toNat : Int) ≥ 48)) then
                bif (decide ((c1.toNat : Int) ≤ 57)) then
                  r2 (z.1, (w64 (z.2 + 1)))
                else
                  bif ((c1.toNat : Int) == 43) then
                    r2 (z.1, (w64 (z.2 + 1)))
                  else
                    bif (!((c1.toNat : Int) == 45)) then
                      some (false, ())
                    else
                      r2 (z.1, (w64 (z.2 + 1)))
              else
                bif ((c1.toNat : Int) == 43) then
                  r2 (z.1, (w64 (z.2 + 1)))
                else
                  bif (!((c1.toNat : Int) == 45)) then
                    some (false, ())
                  else
                    r2 (z.1, (w64 (z.2 + 1)))
          else
            bif (decide ((c1.toNat : Int) ≥ 48)) then
              bif (decide ((c1.toNat : Int) ≤ 57)) then
                r2 (z.1, (w64 (z.2 + 1)))
              else
                bif ((c1.toNat : Int) == 43) then
                  r2 (z.1, (w64 (z.2 + 1)))
                else
                  bif (!((c1.toNat : Int) == 45)) then
                    some (false, ())
                  else
                    r2 (z.1, (w64 (z.2 + 1)))
            else
              bif ((c1.toNat : Int) == 43) then
                r2 (z.1, (w64 (z.2 + 1)))
              else
                bif (!((c1.toNat : Int) == 45)) then
                  some (false, ())
                else
                  r2 (z.1, (w64 (z.2 + 1)))
      else
        bif (decide ((c1.toNat : Int) ≥ 65)) then
          bif (decide ((c1.toNat : Int) ≤ 90)) then
            r2 (z.1, (w64 (z.2 + 1)))
          else
            bif (decide ((c1.toNat : Int) ≥ 48)) then
              bif (decide ((c1.toNat : Int) ≤ 57)) then
                r2 (z.1, (w64 (z.2 + 1)))
              else
                bif ((c1.toNat : Int) == 43) then
                  r2 (z.1, (w64 (z.2 + 1)))
                else
                  bif (!((c1.toNat : Int) == 45)) then
                    some (false, ())
                  else
                    r2 (z.1, (w64 (z.2 + 1)))
            else
              bif ((c1.toNat : Int) == 43) then
                r2 (z.1, (w64 (z.2 + 1)))
              else
                bif (!((c1.toNat : Int) == 45)) then
                  some (false, ())
                else
                  r2 (z.1, (w64 (z.2 + 1)))
        else
          bif (decide ((c1.toNat : Int) ≥ 48)) then
            bif (decide ((c1.toNat : Int) ≤ 57)) then
              r2 (z.1, (w64 (z.2 + 1)))
            else
              bif ((c1.toNat : Int) == 43) then
                r2 (z.1, (w64 (z.2 + 1)))
              else
                bif (!((c1.toNat : Int) == 45)) then
                  some (false, ())
                else
                  r2 (z.1, (w64 (z.2 + 1)))
          else
            bif ((c1.toNat : Int) == 43) then
              r2 (z.1, (w64 (z.2 + 1)))
            else
              bif (!((c1.toNat : Int) == 45)) then
                some (false, ())
              else
                r2 (z.1, (w64 (z.2 + 1)))
    else none
  else
    k0 ()
def f35_s2 (n : Nat) (k0 : f35_t0 → Option f35_rs.den) (r2 : f35_t2 → Option f35_rs.den) (z : f35_t2) : Option f35_rs.den := f35_p2 n k0 r2 z
theorem f35_e2 (n : Nat) (k0 : St → Option f35_rs.den) (r2 : St → Option f35_rs.den) (rc : Code → An → St → (Ex → St → Option f35_rs.den) → Option f35_rs.den) (z : f35_t2) : codeR rc Tryd.prog f35_sp n (cl (cl (cr (cl (cr (cr (bodyOf Tryd.f35))))))) f35_an.right.right.left.right.left.left (f35_m2 z) (kSeq r2 f35_an.right.right.left.right.left (kBlk 0 (kSeq k0 f35_an.right.right (kFin Tryd.prog f35_rs Tryd.f35)))) = f35_p2 n (fun y => k0 (f35_m0 y)) (fun y => r2 (f35_m2 y)) z := by kernel_rfl
theorem f35_q2 (n : Nat) (k0 : St → Option f35_rs.den) (r2 : St → Option f35_rs.den) (z : f35_t2) : codeK Tryd.prog f35_sp n (cl (cl (cr (cl (cr (cr (bodyOf Tryd.f35))))))) f35_an.right.right.left.right.left.left (f35_m2 z) (kSeq r2 f35_an.right.right.left.right.left (kBlk 0 (kSeq k0 f35_an.right.right (kFin Tryd.prog f35_rs Tryd.f35)))) = f35_s2 n (fun y => k0 (f35_m0 y)) (fun y => r2 (f35_m2 y)) z := by
  rw [codeK_R, f35_e2]
  rfl
def f35_s1 (n : Nat) (k0 : f35_t0 → Option f35_rs.den) (z : f35_t1) : Option f35_rs.den :=
  rounds (fun r2 x' => f35_s2 n k0 r2 x') n (z.1, z.2)
theorem f35_q1 (n : Nat) (k0 : St → Option f35_rs.den) (z : f35_t1) : codeK Tryd.prog f35_sp n (cr (cl (cr (cr (bodyOf Tryd.f35))))) f35_an.right.right.left.right (f35_m1 z) (kSeq k0 f35_an.right.right (kFin Tryd.prog f35_rs Tryd.f35)) = f35_s1 n (fun y => k0 (f35_m0 y)) z :=
  Eq.trans (b := rounds (fun r2 st => codeK Tryd.prog f35_sp n (cl (cl (cr (cl (cr (cr (bodyOf Tryd.f35))))))) f35_an.right.right.left.right.left.left st (kSeq r2 f35_an.right.right.left.right.left (kBlk 0 (kSeq k0 f35_an.right.right (kFin Tryd.prog f35_rs Tryd.f35))))) n (f35_m2 (z.1, z.2))) (by kernel_rfl) (rounds_mk f35_m2 (fun r2 x' => by
    have := (f35_q2 n k0 r2 x')
    exact this) n _)
def f35_px (_n : Nat) (k0 : f35_t0 → Option f35_rs.den) (k1 : f35_t1 → Option f35_rs.den) (x : f35_ps.den) : Option f35_rs.den :=
  bif (decide ((ByteArray.size x.1 : Int) < 3)) then
    some (false, ())
  else
    bif (decide ((ByteArray.size x.1 : Int) > 6)) then
      some (false, ())
    else
      k1 (x.1, (0 : Int))
def f35 (n : Nat) (x : f35_ps.den) : Option f35_rs.den := f35_px n (f35_s0 n) (f35_s1 n (f35_s0 n)) x
theorem f35_ex (n : Nat) (rc : Code → An → St → (Ex → St → Option f35_rs.den) → Option f35_rs.den) (x : f35_ps.den) : codeR rc Tryd.prog f35_sp n (bodyOf Tryd.f35) f35_an (start f35_ps x (Func.ntmps Tryd.f35)) (kFin Tryd.prog f35_rs Tryd.f35) = f35_px n (fun y => rc (cr (cr (cr (bodyOf Tryd.f35)))) f35_an.right.right.right (f35_m0 y) (kFin Tryd.prog f35_rs Tryd.f35)) (fun y => rc (cr (cl (cr (cr (bodyOf Tryd.f35))))) f35_an.right.right.left.right (f35_m1 y) (kSeq (fun st => rc (cr (cr (cr (bodyOf Tryd.f35)))) f35_an.right.right.right st (kFin Tryd.prog f35_rs Tryd.f35)) f35_an.right.right (kFin Tryd.prog f35_rs Tryd.f35))) x := by kernel_rfl
theorem f35_qx (n : Nat) (x : f35_ps.den) : codeK Tryd.prog f35_sp n (bodyOf Tryd.f35) f35_an (start f35_ps x (Func.ntmps Tryd.f35)) (kFin Tryd.prog f35_rs Tryd.f35) = f35 n x := by
  have h0 : (fun y => codeK Tryd.prog f35_sp n (cr (cr (cr (bodyOf Tryd.f35)))) f35_an.right.right.right (f35_m0 y) (kFin Tryd.prog f35_rs Tryd.f35)) = (f35_s0 n) := funext fun y => by
    have := f35_q0 n  y
    exact this
  have h1 : (fun y => codeK Tryd.prog f35_sp n (cr (cl (cr (cr (bodyOf Tryd.f35))))) f35_an.right.right.left.right (f35_m1 y) (kSeq (fun st => codeK Tryd.prog f35_sp n (cr (cr (cr (bodyOf Tryd.f35)))) f35_an.right.right.right st (kFin Tryd.prog f35_rs Tryd.f35)) f35_an.right.right (kFin Tryd.prog f35_rs Tryd.f35))) = (f35_s1 n (f35_s0 n)) := funext fun y => by
    have := f35_q1 n (fun st => codeK Tryd.prog f35_sp n (cr (cr (cr (bodyOf Tryd.f35)))) f35_an.right.right.right st (kFin Tryd.prog f35_rs Tryd.f35)) y
    rw [h0] at this; exact this
  rw [codeK_R, f35_ex]
  rw [h0]
  rw [h1]
  rfl
def f35_spec : Sp := ⟨f35_ps, f35_rs, f35⟩
theorem f35_ok : Sound Tryd.prog CG 35 f35_spec := sound_of look_nil Tryd.func35 (by kernel_rfl) rfl f35_an f35_spec rfl rfl f35_qx

/-! ### noonmark/noonmarkref16.find -/
abbrev f33_ps : Ty := (.pair .str (.pair .str .unit))
abbrev f33_rs : Ty := (.pair (.int .i64) .unit)
def f33_sp : Specs := look []
def f33_an : An := (.s .o (.k [] 0 (.k [0,1,5] 0 .o (.b (.l [0,1,5] 0 .o))) .o))
abbrev f33_t0 := Unit
def f33_m0 (_z : f33_t0) : St := ⟨[.junk, .junk, .junk, .junk, .junk, .junk, .junk, .junk, .junk, .junk, .junk, .junk, .junk, .junk, .junk, .junk, .junk, .junk, .junk, .junk, .junk, .junk, .junk, .junk, .junk], []⟩
abbrev f33_t1 := ByteArray × ByteArray × Int
def f33_m1 (z : f33_t1) : St := ⟨[.v ⟨.str, z.1⟩, .v ⟨.str, z.2.1⟩, .junk, .junk, .junk, .v ⟨(.int .i64), z.2.2⟩, .junk, .junk, .junk, .junk, .junk, .junk, .junk, .junk, .junk, .junk, .junk, .junk, .junk, .junk, .junk, .junk, .junk, .junk, .junk], []⟩
abbrev f33_t2 := ByteArray × ByteArray × Int
def f33_m2 (z : f33_t2) : St := ⟨[.v ⟨.str, z.1⟩, .v ⟨.str, z.2.1⟩, .junk, .junk, .junk, .v ⟨(.int .i64), z.2.2⟩, .junk, .junk, .junk, .junk, .junk, .junk, .junk, .junk, .junk, .junk, .junk, .junk, .junk, .junk, .junk, .junk, .junk, .junk, .junk], []⟩
def f33_p0 (_n : Nat) (_z : f33_t0) : Option f33_rs.den :=
  some ((-1 : Int), ())
def f33_s0 (n : Nat) (z : f33_t0) : Option f33_rs.den := f33_p0 n z
theorem f33_e0 (n : Nat) (rc : Code → An → St → (Ex → St → Option f33_rs.den) → Option f33_rs.den) (z : f33_t0) : codeR rc Tryd.prog f33_sp n (cr (cr (bodyOf Tryd.f33))) f33_an.right.right (f33_m0 z) (kFin Tryd.prog f33_rs Tryd.f33) = f33_p0 n z := by kernel_rfl
theorem f33_q0 (n : Nat) (z : f33_t0) : codeK Tryd.prog f33_sp n (cr (cr (bodyOf Tryd.f33))) f33_an.right.right (f33_m0 z) (kFin Tryd.prog f33_rs Tryd.f33) = f33_s0 n z := by
  rw [codeK_R, f33_e0]
  rfl
def f33_p2 (_n : Nat) (k0 : f33_t0 → Option f33_rs.den) (r2 : f33_t2 → Option f33_rs.den) (z : f33_t2) : Option f33_rs.den :=
  bif (decide ((w64 (z.2.2 + (ByteArray.size z.2.1 : Int))) ≤ (ByteArray.size z.1 : Int))) then
    let t2 := w64 (z.2.2 + (ByteArray.size z.2.1 : Int))
    bif decide (0 ≤ t2 ∧ t2 ≤ ((ByteArray.size z.1 : Nat) : Int)) then
      bif decide (0 ≤ z.2.2 ∧ z.2.2 ≤ (((Int.toNat t2) : Nat) : Int)) then
        bif ((ByteArray.extract z.1 (Int.toNat z.2.2) (Int.toNat t2)).toList == z.2.1.toList) then
          some (z.2.2, ())
        else
          r2 (z.1, z.2.1, (w64 (z.2.2 + 1)))
      else none
    else none
  else
    k0 ()
def f33_s2 (n : Nat) (k0 : f33_t0 → Option f33_rs.den) (r2 : f33_t2 → Option f33_rs.den) (z : f33_t2) : Option f33_rs.den := f33_p2 n k0 r2 z
theorem f33_e2 (n : Nat) (k0 : St → Option f33_rs.den) (r2 : St → Option f33_rs.den) (rc : Code → An → St → (Ex → St → Option f33_rs.den) → Option f33_rs.den) (z : f33_t2) : codeR rc Tryd.prog f33_sp n (cl (cl (cr (cl (cr (bodyOf Tryd.f33)))))) f33_an.right.left.right.left.left (f33_m2 z) (kSeq r2 f33_an.right.left.right.left (kBlk 0 (kSeq k0 f33_an.right (kFin Tryd.prog f33_rs Tryd.f33)))) = f33_p2 n (fun y => k0 (f33_m0 y)) (fun y => r2 (f33_m2 y)) z := by kernel_rfl
theorem f33_q2 (n : Nat) (k0 : St → Option f33_rs.den) (r2 : St → Option f33_rs.den) (z : f33_t2) : codeK Tryd.prog f33_sp n (cl (cl (cr (cl (cr (bodyOf Tryd.f33)))))) f33_an.right.left.right.left.left (f33_m2 z) (kSeq r2 f33_an.right.left.right.left (kBlk 0 (kSeq k0 f33_an.right (kFin Tryd.prog f33_rs Tryd.f33)))) = f33_s2 n (fun y => k0 (f33_m0 y)) (fun y => r2 (f33_m2 y)) z := by
  rw [codeK_R, f33_e2]
  rfl
def f33_s1 (n : Nat) (k0 : f33_t0 → Option f33_rs.den) (z : f33_t1) : Option f33_rs.den :=
  rounds (fun r2 x' => f33_s2 n k0 r2 x') n (z.1, z.2.1, z.2.2)
theorem f33_q1 (n : Nat) (k0 : St → Option f33_rs.den) (z : f33_t1) : codeK Tryd.prog f33_sp n (cr (cl (cr (bodyOf Tryd.f33)))) f33_an.right.left.right (f33_m1 z) (kSeq k0 f33_an.right (kFin Tryd.prog f33_rs Tryd.f33)) = f33_s1 n (fun y => k0 (f33_m0 y)) z :=
  Eq.trans (b := rounds (fun r2 st => codeK Tryd.prog f33_sp n (cl (cl (cr (cl (cr (bodyOf Tryd.f33)))))) f33_an.right.left.right.left.left st (kSeq r2 f33_an.right.left.right.left (kBlk 0 (kSeq k0 f33_an.right (kFin Tryd.prog f33_rs Tryd.f33))))) n (f33_m2 (z.1, z.2.1, z.2.2))) (by kernel_rfl) (rounds_mk f33_m2 (fun r2 x' => by
    have := (f33_q2 n k0 r2 x')
    exact this) n _)
def f33_px (_n : Nat) (k0 : f33_t0 → Option f33_rs.den) (k1 : f33_t1 → Option f33_rs.den) (x : f33_ps.den) : Option f33_rs.den :=
  k1 (x.1, x.2.1, (0 : Int))
def f33 (n : Nat) (x : f33_ps.den) : Option f33_rs.den := f33_px n (f33_s0 n) (f33_s1 n (f33_s0 n)) x
theorem f33_ex (n : Nat) (rc : Code → An → St → (Ex → St → Option f33_rs.den) → Option f33_rs.den) (x : f33_ps.den) : codeR rc Tryd.prog f33_sp n (bodyOf Tryd.f33) f33_an (start f33_ps x (Func.ntmps Tryd.f33)) (kFin Tryd.prog f33_rs Tryd.f33) = f33_px n (fun y => rc (cr (cr (bodyOf Tryd.f33))) f33_an.right.right (f33_m0 y) (kFin Tryd.prog f33_rs Tryd.f33)) (fun y => rc (cr (cl (cr (bodyOf Tryd.f33)))) f33_an.right.left.right (f33_m1 y) (kSeq (fun st => rc (cr (cr (bodyOf Tryd.f33))) f33_an.right.right st (kFin Tryd.prog f33_rs Tryd.f33)) f33_an.right (kFin Tryd.prog f33_rs Tryd.f33))) x := by kernel_rfl
theorem f33_qx (n : Nat) (x : f33_ps.den) : codeK Tryd.prog f33_sp n (bodyOf Tryd.f33) f33_an (start f33_ps x (Func.ntmps Tryd.f33)) (kFin Tryd.prog f33_rs Tryd.f33) = f33 n x := by
  have h0 : (fun y => codeK Tryd.prog f33_sp n (cr (cr (bodyOf Tryd.f33))) f33_an.right.right (f33_m0 y) (kFin Tryd.prog f33_rs Tryd.f33)) = (f33_s0 n) := funext fun y => by
    have := f33_q0 n  y
    exact this
  have h1 : (fun y => codeK Tryd.prog f33_sp n (cr (cl (cr (bodyOf Tryd.f33)))) f33_an.right.left.right (f33_m1 y) (kSeq (fun st => codeK Tryd.prog f33_sp n (cr (cr (bodyOf Tryd.f33))) f33_an.right.right st (kFin Tryd.prog f33_rs Tryd.f33)) f33_an.right (kFin Tryd.prog f33_rs Tryd.f33))) = (f33_s1 n (f33_s0 n)) := funext fun y => by
    have := f33_q1 n (fun st => codeK Tryd.prog f33_sp n (cr (cr (bodyOf Tryd.f33))) f33_an.right.right st (kFin Tryd.prog f33_rs Tryd.f33)) y
    rw [h0] at this; exact this
  rw [codeK_R, f33_ex]
  rw [h0]
  rw [h1]
  rfl
def f33_spec : Sp := ⟨f33_ps, f33_rs, f33⟩
theorem f33_ok : Sound Tryd.prog CG 33 f33_spec := sound_of look_nil Tryd.func33 (by kernel_rfl) rfl f33_an f33_spec rfl rfl f33_qx

/-! ### noonmark/noonmarkref16.Abbr -/
abbrev f19_ps : Ty := (.pair .str (.pair .str (.pair (.int .i64) (.pair .bool .unit))))
abbrev f19_rs : Ty := (.pair .str (.pair (.int .i64) .unit))
def f19_sp : Specs := look [(33, f33_spec), (34, f34_spec), (35, f35_spec)]
def f19_an : An := (.s .o (.s .o (.s .o (.k [10] 0 .o .o))))
abbrev f19_t0 := ByteArray
def f19_m0 (z : f19_t0) : St := ⟨[.junk, .junk, .junk, .junk, .junk, .junk, .junk, .junk, .junk, .junk, .v ⟨.str, z⟩, .junk, .junk, .junk, .junk, .junk, .junk, .junk, .junk, .junk, .junk, .junk, .junk, .junk, .junk, .junk, .junk, .junk, .junk, .junk, .junk, .junk, .junk, .junk, .junk, .junk, .junk, .junk, .junk, .junk, .junk, .junk, .junk, .junk, .junk, .junk, .junk, .junk, .junk, .junk, .junk, .junk, .junk, .junk, .junk, .junk, .junk, .junk, .junk, .junk, .junk, .junk, .junk, .junk, .junk, .junk], []⟩
def f19_p0 (n : Nat) (z : f19_t0) : Option f19_rs.den :=
  ((f35 n (z, ()))).bind fun r18 =>
  bif (!r18.1) then
    some ((⟨#[]⟩ : ByteArray), ((15 : Int), ()))
  else
    some (z, ((0 : Int), ()))
def f19_s0 (n : Nat) (z : f19_t0) : Option f19_rs.den := f19_p0 n z
theorem f19_e0 (n : Nat) (rc : Code → An → St → (Ex → St → Option f19_rs.den) → Option f19_rs.den) (z : f19_t0) : codeR rc Tryd.prog f19_sp n (cr (cr (cr (cr (bodyOf Tryd.f19))))) f19_an.right.right.right.right (f19_m0 z) (kFin Tryd.prog f19_rs Tryd.f19) = f19_p0 n z := by kernel_rfl
theorem f19_q0 (n : Nat) (z : f19_t0) : codeK Tryd.prog f19_sp n (cr (cr (cr (cr (bodyOf Tryd.f19))))) f19_an.right.right.right.right (f19_m0 z) (kFin Tryd.prog f19_rs Tryd.f19) = f19_s0 n z := by
  rw [codeK_R, f19_e0]
  rfl
def f19_px (n : Nat) (k0 : f19_t0 → Option f19_rs.den) (x : f19_ps.den) : Option f19_rs.den :=
  bif (decide (x.2.2.1 < (-180000))) then
    some ((⟨#[]⟩ : ByteArray), ((1 : Int), ()))
  else
    bif (decide (x.2.2.1 > 180000)) then
      some ((⟨#[]⟩ : ByteArray), ((1 : Int), ()))
    else
      ((f33 n (x.1, ((⟨#[37, 115]⟩ : ByteArray), ())))).bind fun r1 =>
      bif (decide (r1.1 ≥ 0)) then
        bif decide (0 ≤ r1.1 ∧ r1.1 ≤ ((ByteArray.size x.1 : Nat) : Int)) then
          let t2 := ByteArray.extract x.1 0 (Int.toNat r1.1)
          bif decide (((ByteArray.size t2 + ByteArray.size x.2.1 : Nat) : Int) > IntKind.i64.max) then none else
          let t3 := t2 ++ x.2.1
          let t4 := w64 (r1.1 + 2)
          bif decide (0 ≤ t4 ∧ t4 ≤ (((ByteArray.size x.1) : Nat) : Int)) then
            let t5 := ByteArray.extract x.1 (Int.toNat t4) (ByteArray.size x.1)
            bif decide (((ByteArray.size t3 + ByteArray.size t5 : Nat) : Int) > IntKind.i64.max) then none else
            k0 (t3 ++ t5)
          else none
        else none
      else
        ((f33 n (x.1, ((⟨#[37, 122]⟩ : ByteArray), ())))).bind fun r7 =>
        bif (decide (r7.1 ≥ 0)) then
          bif decide (0 ≤ r7.1 ∧ r7.1 ≤ ((ByteArray.size x.1 : Nat) : Int)) then
            let t8 := ByteArray.extract x.1 0 (Int.toNat r7.1)
            ((f34 n (x.2.2.1, ()))).bind fun r9 =>
            bif decide (((ByteArray.size t8 + ByteArray.size r9.1 : Nat) : Int) > IntKind.i64.max) then none else
            let t10 := t8 ++ r9.1
            let t11 := w64 (r7.1 + 2)
            bif decide (0 ≤ t11 ∧ t11 ≤ (((ByteArray.size x.1) : Nat) : Int)) then
              let t12 := ByteArray.extract x.1 (Int.toNat t11) (ByteArray.size x.1)
              bif decide (((ByteArray.size t10 + ByteArray.size t12 : Nat) : Int) > IntKind.i64.max) then none else
              k0 (t10 ++ t12)
            else none
          else none
        else
          ((f33 n (x.1, ((⟨#[47]⟩ : ByteArray), ())))).bind fun r14 =>
          bif (decide (r14.1 ≥ 0)) then
            bif x.2.2.2.1 then
              let t15 := w64 (r14.1 + 1)
              bif decide (0 ≤ t15 ∧ t15 ≤ (((ByteArray.size x.1) : Nat) : Int)) then
                k0 (ByteArray.extract x.1 (Int.toNat t15) (ByteArray.size x.1))
              else none
            else
              bif decide (0 ≤ r14.1 ∧ r14.1 ≤ ((ByteArray.size x.1 : Nat) : Int)) then
                k0 (ByteArray.extract x.1 0 (Int.toNat r14.1))
              else none
          else
            k0 x.1
def f19 (n : Nat) (x : f19_ps.den) : Option f19_rs.den := f19_px n (f19_s0 n) x
theorem f19_ex (n : Nat) (rc : Code → An → St → (Ex → St → Option f19_rs.den) → Option f19_rs.den) (x : f19_ps.den) : codeR rc Tryd.prog f19_sp n (bodyOf Tryd.f19) f19_an (start f19_ps x (Func.ntmps Tryd.f19)) (kFin Tryd.prog f19_rs Tryd.f19) = f19_px n (fun y => rc (cr (cr (cr (cr (bodyOf Tryd.f19))))) f19_an.right.right.right.right (f19_m0 y) (kFin Tryd.prog f19_rs Tryd.f19)) x := by kernel_rfl
theorem f19_qx (n : Nat) (x : f19_ps.den) : codeK Tryd.prog f19_sp n (bodyOf Tryd.f19) f19_an (start f19_ps x (Func.ntmps Tryd.f19)) (kFin Tryd.prog f19_rs Tryd.f19) = f19 n x := by
  have h0 : (fun y => codeK Tryd.prog f19_sp n (cr (cr (cr (cr (bodyOf Tryd.f19))))) f19_an.right.right.right.right (f19_m0 y) (kFin Tryd.prog f19_rs Tryd.f19)) = (f19_s0 n) := funext fun y => by
    have := f19_q0 n  y
    exact this
  rw [codeK_R, f19_ex]
  rw [h0]
  rfl
def f19_spec : Sp := ⟨f19_ps, f19_rs, f19⟩
theorem f19_ok : Sound Tryd.prog CG 19 f19_spec := sound_of (look_cons f33_ok (look_cons f34_ok (look_cons f35_ok look_nil))) Tryd.func19 (by kernel_rfl) rfl f19_an f19_spec rfl rfl f19_qx

/-! ### noonmark/noonmarkref16.Of -/
abbrev f9_ps : Ty := (.pair T_api_Era (.pair T_noonmarkref15_State .unit))
abbrev f9_rs : Ty := (.pair T_api_Local (.pair (.int .i64) .unit))
def f9_sp : Specs := look [(19, f19_spec)]
def f9_an : An := .o
def f9_px (n : Nat) (x : f9_ps.den) : Option f9_rs.den :=
  let t1 := w64 (x.1.1 + x.2.1.2.1)
  ((f19 n (x.1.2.2.2.2.1, (x.2.1.2.2.1, (t1, ((x.2.1.2.1 != 0), ())))))).bind fun r2 =>
  bif (r2.2.1 != 0) then
    some (((0 : Int), (false, ((⟨#[]⟩ : ByteArray), ()))), (r2.2.1, ()))
  else
    some ((t1, ((x.2.1.2.1 != 0), (r2.1, ()))), ((0 : Int), ()))
def f9 (n : Nat) (x : f9_ps.den) : Option f9_rs.den := f9_px n x
theorem f9_ex (n : Nat) (rc : Code → An → St → (Ex → St → Option f9_rs.den) → Option f9_rs.den) (x : f9_ps.den) : codeR rc Tryd.prog f9_sp n (bodyOf Tryd.f9) f9_an (start f9_ps x (Func.ntmps Tryd.f9)) (kFin Tryd.prog f9_rs Tryd.f9) = f9_px n x := by kernel_rfl
theorem f9_qx (n : Nat) (x : f9_ps.den) : codeK Tryd.prog f9_sp n (bodyOf Tryd.f9) f9_an (start f9_ps x (Func.ntmps Tryd.f9)) (kFin Tryd.prog f9_rs Tryd.f9) = f9 n x := by
  rw [codeK_R, f9_ex]
  rfl
def f9_spec : Sp := ⟨f9_ps, f9_rs, f9⟩
theorem f9_ok : Sound Tryd.prog CG 9 f9_spec := sound_of (look_cons f19_ok look_nil) Tryd.func9 (by kernel_rfl) rfl f9_an f9_spec rfl rfl f9_qx

/-! ### noonmark/format.Plain -/
abbrev f14_ps : Ty := (.pair .str .unit)
abbrev f14_rs : Ty := (.pair .bool .unit)
def f14_sp : Specs := look []
def f14_an : An := (.s .o (.k [0] 0 (.k [0,7,8,9] 0 .o (.b (.l [0,7,8,9] 0 (.s .o (.s .o (.k [0,7,8,9] 0 (.b (.s .o (.s .o (.b (.k [0,7,8,9,15] 0 .o .o))))) .o)))))) .o))
abbrev f14_t0 := ByteArray
def f14_m0 (z : f14_t0) : St := ⟨[.v ⟨.str, z⟩, .junk, .junk, .junk, .junk, .junk, .junk, .junk, .junk, .junk, .junk, .junk, .junk, .junk, .junk, .junk, .junk, .junk, .junk, .junk, .junk, .junk, .junk, .junk, .junk, .junk, .junk, .junk, .junk, .junk, .junk, .junk, .junk, .junk, .junk, .junk, .junk, .junk, .junk, .junk, .junk, .junk, .junk, .junk, .junk], []⟩
abbrev f14_t1 := ByteArray × (List Int) × Int × Int
def f14_m1 (z : f14_t1) : St := ⟨[.v ⟨.str, z.1⟩, .junk, .junk, .junk, .junk, .junk, .junk, .v ⟨(.list (.int .u8)), z.2.1⟩, .v ⟨(.int .i64), z.2.2.1⟩, .v ⟨(.int .i64), z.2.2.2⟩, .junk, .junk, .junk, .junk, .junk, .junk, .junk, .junk, .junk, .junk, .junk, .junk, .junk, .junk, .junk, .junk, .junk, .junk, .junk, .junk, .junk, .junk, .junk, .junk, .junk, .junk, .junk, .junk, .junk, .junk, .junk, .junk, .junk, .junk, .junk], []⟩
abbrev f14_t2 := ByteArray × (List Int) × Int × Int
def f14_m2 (z : f14_t2) : St := ⟨[.v ⟨.str, z.1⟩, .junk, .junk, .junk, .junk, .junk, .junk, .v ⟨(.list (.int .u8)), z.2.1⟩, .v ⟨(.int .i64), z.2.2.1⟩, .v ⟨(.int .i64), z.2.2.2⟩, .junk, .junk, .junk, .junk, .junk, .junk, .junk, .junk, .junk, .junk, .junk, .junk, .junk, .junk, .junk, .junk, .junk, .junk, .junk, .junk, .junk, .junk, .junk, .junk, .junk, .junk, .junk, .junk, .junk, .junk, .junk, .junk, .junk, .junk, .junk], []⟩
abbrev f14_t3 := ByteArray × (List Int) × Int × Int
def f14_m3 (z : f14_t3) : St := ⟨[.v ⟨.str, z.1⟩, .junk, .junk, .junk, .junk, .junk, .junk, .v ⟨(.list (.int .u8)), z.2.1⟩, .v ⟨(.int .i64), z.2.2.1⟩, .v ⟨(.int .i64), z.2.2.2⟩, .junk, .junk, .junk, .junk, .junk, .junk, .junk, .junk, .junk, .junk, .junk, .junk, .junk, .junk, .junk, .junk, .junk, .junk, .junk, .junk, .junk, .junk, .junk, .junk, .junk, .junk, .junk, .junk, .junk, .junk, .junk, .junk, .junk, .junk, .junk], []⟩
abbrev f14_t4 := ByteArray × (List Int) × Int × Int × Bool
def f14_m4 (z : f14_t4) : St := ⟨[.v ⟨.str, z.1⟩, .junk, .junk, .junk, .junk, .junk, .junk, .v ⟨(.list (.int .u8)), z.2.1⟩, .v ⟨(.int .i64), z.2.2.1⟩, .v ⟨(.int .i64), z.2.2.2.1⟩, .junk, .junk, .junk, .junk, .junk, .v ⟨.bool, z.2.2.2.2⟩, .junk, .junk, .junk, .junk, .junk, .junk, .junk, .junk, .junk, .junk, .junk, .junk, .junk, .junk, .junk, .junk, .junk, .junk, .junk, .junk, .junk, .junk, .junk, .junk, .junk, .junk, .junk, .junk, .junk], []⟩
def f14_p0 (_n : Nat) (z : f14_t0) : Option f14_rs.den :=
  bif (decide ((ByteArray.size z : Int) ≥ 3)) then
    some ((decide ((ByteArray.size z : Int) ≤ 6)), ())
  else
    some (false, ())
def f14_s0 (n : Nat) (z : f14_t0) : Option f14_rs.den := f14_p0 n z
theorem f14_e0 (n : Nat) (rc : Code → An → St → (Ex → St → Option f14_rs.den) → Option f14_rs.den) (z : f14_t0) : codeR rc Tryd.prog f14_sp n (cr (cr (bodyOf Tryd.f14))) f14_an.right.right (f14_m0 z) (kFin Tryd.prog f14_rs Tryd.f14) = f14_p0 n z := by kernel_rfl
theorem f14_q0 (n : Nat) (z : f14_t0) : codeK Tryd.prog f14_sp n (cr (cr (bodyOf Tryd.f14))) f14_an.right.right (f14_m0 z) (kFin Tryd.prog f14_rs Tryd.f14) = f14_s0 n z := by
  rw [codeK_R, f14_e0]
  rfl
def f14_p3 (_n : Nat) (_k0 : f14_t0 → Option f14_rs.den) (r2 : f14_t2 → Option f14_rs.den) (z : f14_t3) : Option f14_rs.den :=
  r2 (z.1, z.2.1, z.2.2.1, (w64 (z.2.2.2 + 1)))
def f14_s3 (n : Nat) (k0 : f14_t0 → Option f14_rs.den) (r2 : f14_t2 → Option f14_rs.den) (z : f14_t3) : Option f14_rs.den := f14_p3 n k0 r2 z
theorem f14_e3 (n : Nat) (k0 : St → Option f14_rs.den) (r2 : St → Option f14_rs.den) (rc : Code → An → St → (Ex → St → Option f14_rs.den) → Option f14_rs.den) (z : f14_t3) : codeR rc Tryd.prog f14_sp n (cr (cr (cr (cl (cl (cr (cl (cr (bodyOf Tryd.f14))))))))) f14_an.right.left.right.left.left.right.right.right (f14_m3 z) (kSeq r2 f14_an.right.left.right.left (kBlk 0 (kSeq k0 f14_an.right (kFin Tryd.prog f14_rs Tryd.f14)))) = f14_p3 n (fun y => k0 (f14_m0 y)) (fun y => r2 (f14_m2 y)) z := by kernel_rfl
theorem f14_q3 (n : Nat) (k0 : St → Option f14_rs.den) (r2 : St → Option f14_rs.den) (z : f14_t3) : codeK Tryd.prog f14_sp n (cr (cr (cr (cl (cl (cr (cl (cr (bodyOf Tryd.f14))))))))) f14_an.right.left.right.left.left.right.right.right (f14_m3 z) (kSeq r2 f14_an.right.left.right.left (kBlk 0 (kSeq k0 f14_an.right (kFin Tryd.prog f14_rs Tryd.f14)))) = f14_s3 n (fun y => k0 (f14_m0 y)) (fun y => r2 (f14_m2 y)) z := by
  rw [codeK_R, f14_e3]
  rfl
def f14_p4 (_n : Nat) (_k0 : f14_t0 → Option f14_rs.den) (_r2 : f14_t2 → Option f14_rs.den) (k3 : f14_t3 → Option f14_rs.den) (z : f14_t4) : Option f14_rs.den :=
  bif z.2.2.2.2 then
    k3 (z.1, z.2.1, z.2.2.1, z.2.2.2.1)
  else
    some (false, ())
def f14_s4 (n : Nat) (k0 : f14_t0 → Option f14_rs.den) (r2 : f14_t2 → Option f14_rs.den) (k3 : f14_t3 → Option f14_rs.den) (z : f14_t4) : Option f14_rs.den := f14_p4 n k0 r2 k3 z
theorem f14_e4 (n : Nat) (k0 : St → Option f14_rs.den) (r2 : St → Option f14_rs.den) (k3 : St → Option f14_rs.den) (rc : Code → An → St → (Ex → St → Option f14_rs.den) → Option f14_rs.den) (z : f14_t4) : codeR rc Tryd.prog f14_sp n (cr (cl (cr (cr (cl (cl (cr (cr (cl (cl (cr (cl (cr (bodyOf Tryd.f14)))))))))))))) f14_an.right.left.right.left.left.right.right.left.left.right.right.left.right (f14_m4 z) (kBlk 2 (kBlk 1 (kSeq k3 f14_an.right.left.right.left.left.right.right (kSeq r2 f14_an.right.left.right.left (kBlk 0 (kSeq k0 f14_an.right (kFin Tryd.prog f14_rs Tryd.f14))))))) = f14_p4 n (fun y => k0 (f14_m0 y)) (fun y => r2 (f14_m2 y)) (fun y => k3 (f14_m3 y)) z := by kernel_rfl
theorem f14_q4 (n : Nat) (k0 : St → Option f14_rs.den) (r2 : St → Option f14_rs.den) (k3 : St → Option f14_rs.den) (z : f14_t4) : codeK Tryd.prog f14_sp n (cr (cl (cr (cr (cl (cl (cr (cr (cl (cl (cr (cl (cr (bodyOf Tryd.f14)))))))))))))) f14_an.right.left.right.left.left.right.right.left.left.right.right.left.right (f14_m4 z) (kBlk 2 (kBlk 1 (kSeq k3 f14_an.right.left.right.left.left.right.right (kSeq r2 f14_an.right.left.right.left (kBlk 0 (kSeq k0 f14_an.right (kFin Tryd.prog f14_rs Tryd.f14))))))) = f14_s4 n (fun y => k0 (f14_m0 y)) (fun y => r2 (f14_m2 y)) (fun y => k3 (f14_m3 y)) z := by
  rw [codeK_R, f14_e4]
  rfl
def f14_p2 (_n : Nat) (k0 : f14_t0 → Option f14_rs.den) (_r2 : f14_t2 → Option f14_rs.den) (k3 : f14_t3 → Option f14_rs.den) (k4 : f14_t4 → Option f14_rs.den) (z : f14_t2) : Option f14_rs.den :=
  bif (decide (z.2.2.2 < z.2.2.1)) then
    bif decide (0 ≤ z.2.2.2) then
      ((z.2.1[Int.toNat z.2.2.2]?)).bind fun e2 =>
      let t3 := w8 (((BitVec.ofInt (IntKind.bits .u8) e2) ||| (BitVec.ofInt (IntKind.bits .u8) (32 : Int))).toNat : Int)
      bif (decide (97 ≤ t3)) then
        bif (decide (t3 ≤ 122)) then
          bif (decide (e2 < 128)) then
            k4 (z.1, z.2.1, z.2.2.1, z.2.2.2, true)
          else
            bif (decide (48 ≤ e2)) then
              bif (decide (e2 ≤ 57)) then
                k4 (z.1, z.2.1, z.2.2.1, z.2.2.2, true)
              else
                bif (e2 == 43) then
                  k4 (z.1, z.2.1, z.2.2.1, z.2.2.2, true)
                else
                  k4 (z.1, z.2.1, z.2.2.1, z.2.2.2, (e2 == 45))
            else
              bif (e2 == 43) then
                k4 (z.1, z.2.1, z.2.2.1, z.2.2.2, true)
              else
                k4 (z.1, z.2.1, z.2.2.1, z.2.2.2, (e2 == 45))
        else
          bif (decide (48 ≤ e2)) then
            bif (decide (e2 ≤ 57)) then
              k4 (z.1, z.2.1, z.2.2.1, z.2.2.2, true)
            else
              bif (e2 == 43) then
                k4 (z.1, z.2.1, z.2.2.1, z.2.2.2, true)
              else
                k4 (z.1, z.2.1, z.2.2.1, z.2.2.2, (e2 == 45))
          else
            bif (e2 == 43) then
              k4 (z.1, z.2.1, z.2.2.1, z.2.2.2, true)
            else
              k4 (z.1, z.2.1, z.2.2.1, z.2.2.2, (e2 == 45))
      else
        bif (decide (48 ≤ e2)) then
          bif (decide (e2 ≤ 57)) then
            k4 (z.1, z.2.1, z.2.2.1, z.2.2.2, true)
          else
            bif (e2 == 43) then
              k4 (z.1, z.2.1, z.2.2.1, z.2.2.2, true)
            else
              k4 (z.1, z.2.1, z.2.2.1, z.2.2.2, (e2 == 45))
        else
          bif (e2 == 43) then
            k4 (z.1, z.2.1, z.2.2.1, z.2.2.2, true)
          else
            k4 (z.1, z.2.1, z.2.2.1, z.2.2.2, (e2 == 45))
    else none
  else
    k0 z.1
def f14_s2 (n : Nat) (k0 : f14_t0 → Option f14_rs.den) (r2 : f14_t2 → Option f14_rs.den) (z : f14_t2) : Option f14_rs.den := f14_p2 n k0 r2 (f14_s3 n k0 r2) (f14_s4 n k0 r2 (f14_s3 n k0 r2)) z
theorem f14_e2 (n : Nat) (k0 : St → Option f14_rs.den) (r2 : St → Option f14_rs.den) (rc : Code → An → St → (Ex → St → Option f14_rs.den) → Option f14_rs.den) (z : f14_t2) : codeR rc Tryd.prog f14_sp n (cl (cl (cr (cl (cr (bodyOf Tryd.f14)))))) f14_an.right.left.right.left.left (f14_m2 z) (kSeq r2 f14_an.right.left.right.left (kBlk 0 (kSeq k0 f14_an.right (kFin Tryd.prog f14_rs Tryd.f14)))) = f14_p2 n (fun y => k0 (f14_m0 y)) (fun y => r2 (f14_m2 y)) (fun y => rc (cr (cr (cr (cl (cl (cr (cl (cr (bodyOf Tryd.f14))))))))) f14_an.right.left.right.left.left.right.right.right (f14_m3 y) (kSeq r2 f14_an.right.left.right.left (kBlk 0 (kSeq k0 f14_an.right (kFin Tryd.prog f14_rs Tryd.f14))))) (fun y => rc (cr (cl (cr (cr (cl (cl (cr (cr (cl (cl (cr (cl (cr (bodyOf Tryd.f14)))))))))))))) f14_an.right.left.right.left.left.right.right.left.left.right.right.left.right (f14_m4 y) (kBlk 2 (kBlk 1 (kSeq (fun st => rc (cr (cr (cr (cl (cl (cr (cl (cr (bodyOf Tryd.f14))))))))) f14_an.right.left.right.left.left.right.right.right st (kSeq r2 f14_an.right.left.right.left (kBlk 0 (kSeq k0 f14_an.right (kFin Tryd.prog f14_rs Tryd.f14))))) f14_an.right.left.right.left.left.right.right (kSeq r2 f14_an.right.left.right.left (kBlk 0 (kSeq k0 f14_an.right (kFin Tryd.prog f14_rs Tryd.f14)))))))) z := by kernel_rfl
theorem f14_q2 (n : Nat) (k0 : St → Option f14_rs.den) (r2 : St → Option f14_rs.den) (z : f14_t2) : codeK Tryd.prog f14_sp n (cl (cl (cr (cl (cr (bodyOf Tryd.f14)))))) f14_an.right.left.right.left.left (f14_m2 z) (kSeq r2 f14_an.right.left.right.left (kBlk 0 (kSeq k0 f14_an.right (kFin Tryd.prog f14_rs Tryd.f14)))) = f14_s2 n (fun y => k0 (f14_m0 y)) (fun y => r2 (f14_m2 y)) z := by
  have h3 : (fun y => codeK Tryd.prog f14_sp n (cr (cr (cr (cl (cl (cr (cl (cr (bodyOf Tryd.f14))))))))) f14_an.right.left.right.left.left.right.right.right (f14_m3 y) (kSeq r2 f14_an.right.left.right.left (kBlk 0 (kSeq k0 f14_an.right (kFin Tryd.prog f14_rs Tryd.f14))))) = (f14_s3 n (fun y => k0 (f14_m0 y)) (fun y => r2 (f14_m2 y))) := funext fun y => by
    have := f14_q3 n k0 r2 y
    exact this
  have h4 : (fun y => codeK Tryd.prog f14_sp n (cr (cl (cr (cr (cl (cl (cr (cr (cl (cl (cr (cl (cr (bodyOf Tryd.f14)))))))))))))) f14_an.right.left.right.left.left.right.right.left.left.right.right.left.right (f14_m4 y) (kBlk 2 (kBlk 1 (kSeq (fun st => codeK Tryd.prog f14_sp n (cr (cr (cr (cl (cl (cr (cl (cr (bodyOf Tryd.f14))))))))) f14_an.right.left.right.left.left.right.right.right st (kSeq r2 f14_an.right.left.right.left (kBlk 0 (kSeq k0 f14_an.right (kFin Tryd.prog f14_rs Tryd.f14))))) f14_an.right.left.right.left.left.right.right (kSeq r2 f14_an.right.left.right.left (kBlk 0 (kSeq k0 f14_an.right (kFin Tryd.prog f14_rs Tryd.f14)))))))) = (f14_s4 n (fun y => k0 (f14_m0 y)) (fun y => r2 (f14_m2 y)) (f14_s3 n (fun y => k0 (f14_m0 y)) (fun y => r2 (f14_m2 y)))) := funext fun y => by
    have := f14_q4 n k0 r2 (fun st => codeK Tryd.prog f14_sp n (cr (cr (cr (cl (cl (cr (cl (cr (bodyOf Tryd.f14))))))))) f14_an.right.left.right.left.left.right.right.right st (kSeq r2 f14_an.right.left.right.left (kBlk 0 (kSeq k0 f14_an.right (kFin Tryd.prog f14_rs Tryd.f14))))) y
    rw [h3] at this; exact this
  rw [codeK_R, f14_e2]
  rw [h3]
  rw [h4]
  rfl
def f14_s1 (n : Nat) (k0 : f14_t0 → Option f14_rs.den) (z : f14_t1) : Option f14_rs.den :=
  rounds (fun r2 x' => f14_s2 n k0 r2 x') n (z.1, z.2.1, z.2.2.1, z.2.2.2)
theorem f14_q1 (n : Nat) (k0 : St → Option f14_rs.den) (z : f14_t1) : codeK Tryd.prog f14_sp n (cr (cl (cr (bodyOf Tryd.f14)))) f14_an.right.left.right (f14_m1 z) (kSeq k0 f14_an.right (kFin Tryd.prog f14_rs Tryd.f14)) = f14_s1 n (fun y => k0 (f14_m0 y)) z :=
  Eq.trans (b := rounds (fun r2 st => codeK Tryd.prog f14_sp n (cl (cl (cr (cl (cr (bodyOf Tryd.f14)))))) f14_an.right.left.right.left.left st (kSeq r2 f14_an.right.left.right.left (kBlk 0 (kSeq k0 f14_an.right (kFin Tryd.prog f14_rs Tryd.f14))))) n (f14_m2 (z.1, z.2.1, z.2.2.1, z.2.2.2))) (by kernel_rfl) (rounds_mk f14_m2 (fun r2 x' => by
    have := (f14_q2 n k0 r2 x')
    exact this) n _)
def f14_px (_n : Nat) (k0 : f14_t0 → Option f14_rs.den) (k1 : f14_t1 → Option f14_rs.den) (x : f14_ps.den) : Option f14_rs.den :=
  let t1 := bytesOf x.1
  k1 (x.1, t1, (List.length t1 : Int), (0 : Int))
def f14 (n : Nat) (x : f14_ps.den) : Option f14_rs.den := f14_px n (f14_s0 n) (f14_s1 n (f14_s0 n)) x
theorem f14_ex (n : Nat) (rc : Code → An → St → (Ex → St → Option f14_rs.den) → Option f14_rs.den) (x : f14_ps.den) : codeR rc Tryd.prog f14_sp n (bodyOf Tryd.f14) f14_an (start f14_ps x (Func.ntmps Tryd.f14)) (kFin Tryd.prog f14_rs Tryd.f14) = f14_px n (fun y => rc (cr (cr (bodyOf Tryd.f14))) f14_an.right.right (f14_m0 y) (kFin Tryd.prog f14_rs Tryd.f14)) (fun y => rc (cr (cl (cr (bodyOf Tryd.f14)))) f14_an.right.left.right (f14_m1 y) (kSeq (fun st => rc (cr (cr (bodyOf Tryd.f14))) f14_an.right.right st (kFin Tryd.prog f14_rs Tryd.f14)) f14_an.right (kFin Tryd.prog f14_rs Tryd.f14))) x := by kernel_rfl
theorem f14_qx (n : Nat) (x : f14_ps.den) : codeK Tryd.prog f14_sp n (bodyOf Tryd.f14) f14_an (start f14_ps x (Func.ntmps Tryd.f14)) (kFin Tryd.prog f14_rs Tryd.f14) = f14 n x := by
  have h0 : (fun y => codeK Tryd.prog f14_sp n (cr (cr (bodyOf Tryd.f14))) f14_an.right.right (f14_m0 y) (kFin Tryd.prog f14_rs Tryd.f14)) = (f14_s0 n) := funext fun y => by
    have := f14_q0 n  y
    exact this
  have h1 : (fun y => codeK Tryd.prog f14_sp n (cr (cl (cr (bodyOf Tryd.f14)))) f14_an.right.left.right (f14_m1 y) (kSeq (fun st => codeK Tryd.prog f14_sp n (cr (cr (bodyOf Tryd.f14))) f14_an.right.right st (kFin Tryd.prog f14_rs Tryd.f14)) f14_an.right (kFin Tryd.prog f14_rs Tryd.f14))) = (f14_s1 n (f14_s0 n)) := funext fun y => by
    have := f14_q1 n (fun st => codeK Tryd.prog f14_sp n (cr (cr (bodyOf Tryd.f14))) f14_an.right.right st (kFin Tryd.prog f14_rs Tryd.f14)) y
    rw [h0] at this; exact this
  rw [codeK_R, f14_ex]
  rw [h0]
  rw [h1]
  rfl
def f14_spec : Sp := ⟨f14_ps, f14_rs, f14⟩
theorem f14_ok : Sound Tryd.prog CG 14 f14_spec := sound_of look_nil Tryd.func14 (by kernel_rfl) rfl f14_an f14_spec rfl rfl f14_qx

/-! ### noonmark/format.Abbr -/
abbrev f6_ps : Ty := (.pair .str (.pair .str (.pair (.int .i64) (.pair .bool .unit))))
abbrev f6_rs : Ty := (.pair .str (.pair (.int .i64) .unit))
def f6_sp : Specs := look [(14, f14_spec), (15, cutS), (16, containsS), (17, replaceS), (18, digitsS)]
def f6_an : An := (.s .o (.s .o (.s .o (.s .o (.k [13] 0 .o .o)))))
abbrev f6_t0 := ByteArray
def f6_m0 (z : f6_t0) : St := ⟨[.junk, .junk, .junk, .junk, .junk, .junk, .junk, .junk, .junk, .junk, .junk, .junk, .junk, .v ⟨.str, z⟩, .junk, .junk, .junk, .junk, .junk, .junk, .junk, .junk, .junk, .junk, .junk, .junk, .junk, .junk, .junk, .junk, .junk, .junk, .junk, .junk, .junk, .junk, .junk, .junk, .junk, .junk, .junk, .junk, .junk, .junk, .junk, .junk, .junk, .junk, .junk, .junk, .junk, .junk, .junk], []⟩
def f6_p0 (n : Nat) (z : f6_t0) : Option f6_rs.den :=
  ((f14 n (z, ()))).bind fun r7 =>
  bif (!r7.1) then
    some ((⟨#[]⟩ : ByteArray), ((15 : Int), ()))
  else
    some (z, ((0 : Int), ()))
def f6_s0 (n : Nat) (z : f6_t0) : Option f6_rs.den := f6_p0 n z
theorem f6_e0 (n : Nat) (rc : Code → An → St → (Ex → St → Option f6_rs.den) → Option f6_rs.den) (z : f6_t0) : codeR rc Tryd.prog f6_sp n (cr (cr (cr (cr (cr (bodyOf Tryd.f6)))))) f6_an.right.right.right.right.right (f6_m0 z) (kFin Tryd.prog f6_rs Tryd.f6) = f6_p0 n z := by kernel_rfl
theorem f6_q0 (n : Nat) (z : f6_t0) : codeK Tryd.prog f6_sp n (cr (cr (cr (cr (cr (bodyOf Tryd.f6)))))) f6_an.right.right.right.right.right (f6_m0 z) (kFin Tryd.prog f6_rs Tryd.f6) = f6_s0 n z := by
  rw [codeK_R, f6_e0]
  rfl
def f6_px (n : Nat) (k0 : f6_t0 → Option f6_rs.den) (x : f6_ps.den) : Option f6_rs.den :=
  bif (decide (x.2.2.1 < (-180000))) then
    some ((⟨#[]⟩ : ByteArray), ((1 : Int), ()))
  else
    bif (decide (x.2.2.1 > 180000)) then
      some ((⟨#[]⟩ : ByteArray), ((1 : Int), ()))
    else
      ((cutF n (x.1, ((⟨#[47]⟩ : ByteArray), ())))).bind fun r1 =>
      ((containsF n (x.1, ((⟨#[37, 115]⟩ : ByteArray), ())))).bind fun r2 =>
      bif r2.1 then
        ((replaceF n (x.1, ((⟨#[37, 115]⟩ : ByteArray), (x.2.1, ((1 : Int), ())))))).bind fun r3 =>
        k0 r3.1
      else
        ((containsF n (x.1, ((⟨#[37, 122]⟩ : ByteArray), ())))).bind fun r4 =>
        bif r4.1 then
          ((digitsF n (x.2.2.1, ()))).bind fun r5 =>
          ((replaceF n (x.1, ((⟨#[37, 122]⟩ : ByteArray), (r5.1, ((1 : Int), ())))))).bind fun r6 =>
          k0 r6.1
        else
          bif r1.2.2.1 then
            bif x.2.2.2.1 then
              k0 r1.2.1
            else
              bif r1.2.2.1 then
                k0 r1.1
              else
                k0 x.1
          else
            bif r1.2.2.1 then
              k0 r1.1
            else
              k0 x.1
def f6 (n : Nat) (x : f6_ps.den) : Option f6_rs.den := f6_px n (f6_s0 n) x
theorem f6_ex (n : Nat) (rc : Code → An → St → (Ex → St → Option f6_rs.den) → Option f6_rs.den) (x : f6_ps.den) : codeR rc Tryd.prog f6_sp n (bodyOf Tryd.f6) f6_an (start f6_ps x (Func.ntmps Tryd.f6)) (kFin Tryd.prog f6_rs Tryd.f6) = f6_px n (fun y => rc (cr (cr (cr (cr (cr (bodyOf Tryd.f6)))))) f6_an.right.right.right.right.right (f6_m0 y) (kFin Tryd.prog f6_rs Tryd.f6)) x := by kernel_rfl
theorem f6_qx (n : Nat) (x : f6_ps.den) : codeK Tryd.prog f6_sp n (bodyOf Tryd.f6) f6_an (start f6_ps x (Func.ntmps Tryd.f6)) (kFin Tryd.prog f6_rs Tryd.f6) = f6 n x := by
  have h0 : (fun y => codeK Tryd.prog f6_sp n (cr (cr (cr (cr (cr (bodyOf Tryd.f6)))))) f6_an.right.right.right.right.right (f6_m0 y) (kFin Tryd.prog f6_rs Tryd.f6)) = (f6_s0 n) := funext fun y => by
    have := f6_q0 n  y
    exact this
  rw [codeK_R, f6_ex]
  rw [h0]
  rfl
def f6_spec : Sp := ⟨f6_ps, f6_rs, f6⟩
theorem f6_ok : Sound Tryd.prog CG 6 f6_spec := sound_of (look_cons f14_ok (look_cons cut_ok (look_cons contains_ok (look_cons replace_ok (look_cons digits_ok look_nil))))) Tryd.func6 (by kernel_rfl) rfl f6_an f6_spec rfl rfl f6_qx

/-! ### noonmark/format.Of -/
abbrev f8_ps : Ty := (.pair T_api_Era (.pair T_noonmarkref15_State .unit))
abbrev f8_rs : Ty := (.pair T_api_Local (.pair (.int .i64) .unit))
def f8_sp : Specs := look [(6, f6_spec)]
def f8_an : An := .o
def f8_px (n : Nat) (x : f8_ps.den) : Option f8_rs.den :=
  let t1 := w64 (x.1.1 + x.2.1.2.1)
  ((f6 n (x.1.2.2.2.2.1, (x.2.1.2.2.1, (t1, ((x.2.1.2.1 != 0), ())))))).bind fun r2 =>
  bif (r2.2.1 != 0) then
    some (((0 : Int), (false, ((⟨#[]⟩ : ByteArray), ()))), (r2.2.1, ()))
  else
    some ((t1, ((x.2.1.2.1 != 0), (r2.1, ()))), (r2.2.1, ()))
def f8 (n : Nat) (x : f8_ps.den) : Option f8_rs.den := f8_px n x
theorem f8_ex (n : Nat) (rc : Code → An → St → (Ex → St → Option f8_rs.den) → Option f8_rs.den) (x : f8_ps.den) : codeR rc Tryd.prog f8_sp n (bodyOf Tryd.f8) f8_an (start f8_ps x (Func.ntmps Tryd.f8)) (kFin Tryd.prog f8_rs Tryd.f8) = f8_px n x := by kernel_rfl
theorem f8_qx (n : Nat) (x : f8_ps.den) : codeK Tryd.prog f8_sp n (bodyOf Tryd.f8) f8_an (start f8_ps x (Func.ntmps Tryd.f8)) (kFin Tryd.prog f8_rs Tryd.f8) = f8 n x := by
  rw [codeK_R, f8_ex]
  rfl
def f8_spec : Sp := ⟨f8_ps, f8_rs, f8⟩
theorem f8_ok : Sound Tryd.prog CG 8 f8_spec := sound_of (look_cons f6_ok look_nil) Tryd.func8 (by kernel_rfl) rfl f8_an f8_spec rfl rfl f8_qx

/-! ### noonmark/noonmarklaw16.alive -/
abbrev f7_ps : Ty := .unit
abbrev f7_rs : Ty := (.pair .bool .unit)
def f7_sp : Specs := look [(6, f6_spec)]
def f7_an : An := .o
def f7_px (n : Nat) (_x : f7_ps.den) : Option f7_rs.den :=
  ((f6 n ((⟨#[67, 69, 37, 115, 84]⟩ : ByteArray), ((⟨#[83]⟩ : ByteArray), ((7200 : Int), (true, ())))))).bind fun r1 =>
  ((f6 n ((⟨#[71, 77, 84, 47, 66, 83, 84]⟩ : ByteArray), ((⟨#[]⟩ : ByteArray), ((0 : Int), (false, ())))))).bind fun r2 =>
  ((f6 n ((⟨#[37, 122]⟩ : ByteArray), ((⟨#[]⟩ : ByteArray), ((19800 : Int), (false, ())))))).bind fun r3 =>
  bif (r1.1.toList == (⟨#[67, 69, 83, 84]⟩ : ByteArray).toList) then
    bif (r2.1.toList == (⟨#[71, 77, 84]⟩ : ByteArray).toList) then
      bif (r3.1.toList == (⟨#[43, 48, 53, 51, 48]⟩ : ByteArray).toList) then
        bif (r1.2.1 == 0) then
          bif (r2.2.1 == 0) then
            some ((r3.2.1 == 0), ())
          else
            some (false, ())
        else
          some (false, ())
      else
        some (false, ())
    else
      some (false, ())
  else
    some (false, ())
def f7 (n : Nat) (x : f7_ps.den) : Option f7_rs.den := f7_px n x
theorem f7_ex (n : Nat) (rc : Code → An → St → (Ex → St → Option f7_rs.den) → Option f7_rs.den) (x : f7_ps.den) : codeR rc Tryd.prog f7_sp n (bodyOf Tryd.f7) f7_an (start f7_ps x (Func.ntmps Tryd.f7)) (kFin Tryd.prog f7_rs Tryd.f7) = f7_px n x := by kernel_rfl
theorem f7_qx (n : Nat) (x : f7_ps.den) : codeK Tryd.prog f7_sp n (bodyOf Tryd.f7) f7_an (start f7_ps x (Func.ntmps Tryd.f7)) (kFin Tryd.prog f7_rs Tryd.f7) = f7 n x := by
  rw [codeK_R, f7_ex]
  rfl
def f7_spec : Sp := ⟨f7_ps, f7_rs, f7⟩
theorem f7_ok : Sound Tryd.prog CG 7 f7_spec := sound_of (look_cons f6_ok look_nil) Tryd.func7 (by kernel_rfl) rfl f7_an f7_spec rfl rfl f7_qx

/-! ### noonmark/noonmarklaw16.FormatOfs -/
abbrev f4_ps : Ty := (.pair T_api_Era (.pair T_noonmarkref15_State .unit))
abbrev f4_rs : Ty := (.pair .bool .unit)
def f4_sp : Specs := look [(7, f7_spec), (8, f8_spec), (9, f9_spec)]
def f4_an : An := .o
def f4_px (n : Nat) (x : f4_ps.den) : Option f4_rs.den :=
  bif (decide ((ByteArray.size x.1.2.2.2.2.1 : Int) > 200)) then
    ((f7 n ())).bind fun r1 =>
    some (r1.1, ())
  else
    bif (decide ((ByteArray.size x.2.1.2.2.1 : Int) > 200)) then
      ((f7 n ())).bind fun r2 =>
      some (r2.1, ())
    else
      bif (decide (x.1.1 < (-1000000))) then
        ((f7 n ())).bind fun r3 =>
        some (r3.1, ())
      else
        bif (decide (x.1.1 > 1000000)) then
          ((f7 n ())).bind fun r4 =>
          some (r4.1, ())
        else
          bif (decide (x.2.1.2.1 < (-1000000))) then
            ((f7 n ())).bind fun r5 =>
            some (r5.1, ())
          else
            bif (decide (x.2.1.2.1 > 1000000)) then
              ((f7 n ())).bind fun r6 =>
              some (r6.1, ())
            else
              ((f8 n (x.1, ((x.2.1.1, (x.2.1.2.1, (x.2.1.2.2.1, ()))), ())))).bind fun r7 =>
              ((f9 n (x.1, (x.2.1, ())))).bind fun r8 =>
              bif (eqD T_api_Local r7.1 r8.1) then
                bif (r7.2.1 == r8.2.1) then
                  ((f7 n ())).bind fun r9 =>
                  some (r9.1, ())
                else
                  some (false, ())
              else
                some (false, ())
def f4 (n : Nat) (x : f4_ps.den) : Option f4_rs.den := f4_px n x
theorem f4_ex (n : Nat) (rc : Code → An → St → (Ex → St → Option f4_rs.den) → Option f4_rs.den) (x : f4_ps.den) : codeR rc Tryd.prog f4_sp n (bodyOf Tryd.f4) f4_an (start f4_ps x (Func.ntmps Tryd.f4)) (kFin Tryd.prog f4_rs Tryd.f4) = f4_px n x := by kernel_rfl
theorem f4_qx (n : Nat) (x : f4_ps.den) : codeK Tryd.prog f4_sp n (bodyOf Tryd.f4) f4_an (start f4_ps x (Func.ntmps Tryd.f4)) (kFin Tryd.prog f4_rs Tryd.f4) = f4 n x := by
  rw [codeK_R, f4_ex]
  rfl
def f4_spec : Sp := ⟨f4_ps, f4_rs, f4⟩
theorem f4_ok : Sound Tryd.prog CG 4 f4_spec := sound_of (look_cons f7_ok (look_cons f8_ok (look_cons f9_ok look_nil))) Tryd.func4 (by kernel_rfl) rfl f4_an f4_spec rfl rfl f4_qx

/-! ### noonmark/noonmarklaw16.FormatDigits -/
abbrev f3_ps : Ty := (.pair (.int .i64) .unit)
abbrev f3_rs : Ty := (.pair .bool .unit)
def f3_sp : Specs := look [(6, f6_spec), (7, f7_spec)]
def f3_an : An := (.s .o (.s .o (.s .o (.s .o (.s .o (.s .o (.s .o (.k [0,3,5] 0 (.k [0,3,5,6,7] 0 .o (.b (.l [0,3,5,6,7] 0 .o))) (.k [0,3,5] 0 .o .o)))))))))
abbrev f3_t0 := Int × ByteArray × Int
def f3_m0 (z : f3_t0) : St := ⟨[.v ⟨(.int .i64), z.1⟩, .junk, .junk, .v ⟨.str, z.2.1⟩, .junk, .v ⟨(.int .i64), z.2.2⟩, .junk, .junk, .junk, .junk, .junk, .junk, .junk, .junk, .junk, .junk, .junk, .junk, .junk, .junk, .junk, .junk, .junk, .junk, .junk, .junk, .junk, .junk, .junk, .junk, .junk, .junk, .junk, .junk, .junk, .junk, .junk, .junk, .junk, .junk, .junk, .junk, .junk, .junk, .junk, .junk, .junk, .junk, .junk, .junk, .junk, .junk, .junk, .junk, .junk, .junk, .junk, .junk, .junk, .junk, .junk, .junk, .junk, .junk, .junk, .junk, .junk, .junk, .junk, .junk, .junk, .junk, .junk, .junk, .junk, .junk, .junk, .junk, .junk, .junk, .junk, .junk, .junk, .junk, .junk, .junk, .junk, .junk, .junk, .junk], []⟩
abbrev f3_t1 := Int × ByteArray × Int × Int × Int
def f3_m1 (z : f3_t1) : St := ⟨[.v ⟨(.int .i64), z.1⟩, .junk, .junk, .v ⟨.str, z.2.1⟩, .junk, .v ⟨(.int .i64), z.2.2.1⟩, .v ⟨(.int .i64), z.2.2.2.1⟩, .v ⟨(.int .i64), z.2.2.2.2⟩, .junk, .junk, .junk, .junk, .junk, .junk, .junk, .junk, .junk, .junk, .junk, .junk, .junk, .junk, .junk, .junk, .junk, .junk, .junk, .junk, .junk, .junk, .junk, .junk, .junk, .junk, .junk, .junk, .junk, .junk, .junk, .junk, .junk, .junk, .junk, .junk, .junk, .junk, .junk, .junk, .junk, .junk, .junk, .junk, .junk, .junk, .junk, .junk, .junk, .junk, .junk, .junk, .junk, .junk, .junk, .junk, .junk, .junk, .junk, .junk, .junk, .junk, .junk, .junk, .junk, .junk, .junk, .junk, .junk, .junk, .junk, .junk, .junk, .junk, .junk, .junk, .junk, .junk, .junk, .junk, .junk, .junk], []⟩
abbrev f3_t2 := Int × ByteArray × Int × Int × Int
def f3_m2 (z : f3_t2) : St := ⟨[.v ⟨(.int .i64), z.1⟩, .junk, .junk, .v ⟨.str, z.2.1⟩, .junk, .v ⟨(.int .i64), z.2.2.1⟩, .v ⟨(.int .i64), z.2.2.2.1⟩, .v ⟨(.int .i64), z.2.2.2.2⟩, .junk, .junk, .junk, .junk, .junk, .junk, .junk, .junk, .junk, .junk, .junk, .junk, .junk, .junk, .junk, .junk, .junk, .junk, .junk, .junk, .junk, .junk, .junk, .junk, .junk, .junk, .junk, .junk, .junk, .junk, .junk, .junk, .junk, .junk, .junk, .junk, .junk, .junk, .junk, .junk, .junk, .junk, .junk, .junk, .junk, .junk, .junk, .junk, .junk, .junk, .junk, .junk, .junk, .junk, .junk, .junk, .junk, .junk, .junk, .junk, .junk, .junk, .junk, .junk, .junk, .junk, .junk, .junk, .junk, .junk, .junk, .junk, .junk, .junk, .junk, .junk, .junk, .junk, .junk, .junk, .junk, .junk], []⟩
abbrev f3_t3 := Int × ByteArray × Int
def f3_m3 (z : f3_t3) : St := ⟨[.v ⟨(.int .i64), z.1⟩, .junk, .junk, .v ⟨.str, z.2.1⟩, .junk, .v ⟨(.int .i64), z.2.2⟩, .junk, .junk, .junk, .junk, .junk, .junk, .junk, .junk, .junk, .junk, .junk, .junk, .junk, .junk, .junk, .junk, .junk, .junk, .junk, .junk, .junk, .junk, .junk, .junk, .junk, .junk, .junk, .junk, .junk, .junk, .junk, .junk, .junk, .junk, .junk, .junk, .junk, .junk, .junk, .junk, .junk, .junk, .junk, .junk, .junk, .junk, .junk, .junk, .junk, .junk, .junk, .junk, .junk, .junk, .junk, .junk, .junk, .junk, .junk, .junk, .junk, .junk, .junk, .junk, .junk, .junk, .junk, .junk, .junk, .junk, .junk, .junk, .junk, .junk, .junk, .junk, .junk, .junk, .junk, .junk, .junk, .junk, .junk, .junk], []⟩
def f3_p3 (n : Nat) (z : f3_t3) : Option f3_rs.den :=
  bif (z.2.2 == z.1) then
    bif ((ByteArray.size z.2.1 : Int) == 3) then
      ((f7 n ())).bind fun r22 =>
      some (r22.1, ())
    else
      bif ((ByteArray.size z.2.1 : Int) == 5) then
        ((f7 n ())).bind fun r23 =>
        some (r23.1, ())
      else
        some (false, ())
  else
    some (false, ())
def f3_s3 (n : Nat) (z : f3_t3) : Option f3_rs.den := f3_p3 n z
theorem f3_e3 (n : Nat) (rc : Code → An → St → (Ex → St → Option f3_rs.den) → Option f3_rs.den) (z : f3_t3) : codeR rc Tryd.prog f3_sp n (cr (cr (cr (cr (cr (cr (cr (cr (cr (bodyOf Tryd.f3)))))))))) f3_an.right.right.right.right.right.right.right.right.right (f3_m3 z) (kFin Tryd.prog f3_rs Tryd.f3) = f3_p3 n z := by kernel_rfl
theorem f3_q3 (n : Nat) (z : f3_t3) : codeK Tryd.prog f3_sp n (cr (cr (cr (cr (cr (cr (cr (cr (cr (bodyOf Tryd.f3)))))))))) f3_an.right.right.right.right.right.right.right.right.right (f3_m3 z) (kFin Tryd.prog f3_rs Tryd.f3) = f3_s3 n z := by
  rw [codeK_R, f3_e3]
  rfl
def f3_p0 (_n : Nat) (k3 : f3_t3 → Option f3_rs.den) (z : f3_t0) : Option f3_rs.den :=
  ((z.2.1[Int.toNat (0 : Int)]?)).bind fun c20 =>
  bif ((c20.toNat : Int) == 45) then
    k3 (z.1, z.2.1, (w64 (0 - z.2.2)))
  else
    k3 (z.1, z.2.1, z.2.2)
def f3_s0 (n : Nat) (z : f3_t0) : Option f3_rs.den := f3_p0 n (f3_s3 n) z
theorem f3_e0 (n : Nat) (rc : Code → An → St → (Ex → St → Option f3_rs.den) → Option f3_rs.den) (z : f3_t0) : codeR rc Tryd.prog f3_sp n (cr (cr (cr (cr (cr (cr (cr (cr (bodyOf Tryd.f3))))))))) f3_an.right.right.right.right.right.right.right.right (f3_m0 z) (kFin Tryd.prog f3_rs Tryd.f3) = f3_p0 n (fun y => rc (cr (cr (cr (cr (cr (cr (cr (cr (cr (bodyOf Tryd.f3)))))))))) f3_an.right.right.right.right.right.right.right.right.right (f3_m3 y) (kFin Tryd.prog f3_rs Tryd.f3)) z := by kernel_rfl
theorem f3_q0 (n : Nat) (z : f3_t0) : codeK Tryd.prog f3_sp n (cr (cr (cr (cr (cr (cr (cr (cr (bodyOf Tryd.f3))))))))) f3_an.right.right.right.right.right.right.right.right (f3_m0 z) (kFin Tryd.prog f3_rs Tryd.f3) = f3_s0 n z := by
  have h3 : (fun y => codeK Tryd.prog f3_sp n (cr (cr (cr (cr (cr (cr (cr (cr (cr (bodyOf Tryd.f3)))))))))) f3_an.right.right.right.right.right.right.right.right.right (f3_m3 y) (kFin Tryd.prog f3_rs Tryd.f3)) = (f3_s3 n) := funext fun y => by
    have := f3_q3 n  y
    exact this
  rw [codeK_R, f3_e0]
  rw [h3]
  rfl
def f3_p2 (_n : Nat) (k0 : f3_t0 → Option f3_rs.den) (r2 : f3_t2 → Option f3_rs.den) (z : f3_t2) : Option f3_rs.den :=
  bif (decide ((w64 (z.2.2.2.2 + 1)) < (ByteArray.size z.2.1 : Int))) then
    bif decide (0 ≤ z.2.2.2.2) then
      ((z.2.1[Int.toNat z.2.2.2.2]?)).bind fun c7 =>
      let t11 := w64 (z.2.2.2.2 + 1)
      bif decide (0 ≤ t11) then
        ((z.2.1[Int.toNat t11]?)).bind fun c12 =>
        r2 (z.1, z.2.1, (w64 (z.2.2.1 + (w64 ((w64 ((w64 ((w64 (w8 ((c7.toNat : Int) - 48))) * 10)) + (w64 (w8 ((c12.toNat : Int) - 48))))) * z.2.2.2.1)))), (w64 (Int.tdiv z.2.2.2.1 (60 : Int))), (w64 (z.2.2.2.2 + 2)))
      else none
    else none
  else
    k0 (z.1, z.2.1, z.2.2.1)
def f3_s2 (n : Nat) (k0 : f3_t0 → Option f3_rs.den) (r2 : f3_t2 → Option f3_rs.den) (z : f3_t2) : Option f3_rs.den := f3_p2 n k0 r2 z
theorem f3_e2 (n : Nat) (k0 : St → Option f3_rs.den) (r2 : St → Option f3_rs.den) (rc : Code → An → St → (Ex → St → Option f3_rs.den) → Option f3_rs.den) (z : f3_t2) : codeR rc Tryd.prog f3_sp n (cl (cl (cr (cl (cr (cr (cr (cr (cr (cr (cr (bodyOf Tryd.f3)))))))))))) f3_an.right.right.right.right.right.right.right.left.right.left.left (f3_m2 z) (kSeq r2 f3_an.right.right.right.right.right.right.right.left.right.left (kBlk 0 (kSeq k0 f3_an.right.right.right.right.right.right.right (kFin Tryd.prog f3_rs Tryd.f3)))) = f3_p2 n (fun y => k0 (f3_m0 y)) (fun y => r2 (f3_m2 y)) z := by kernel_rfl
theorem f3_q2 (n : Nat) (k0 : St → Option f3_rs.den) (r2 : St → Option f3_rs.den) (z : f3_t2) : codeK Tryd.prog f3_sp n (cl (cl (cr (cl (cr (cr (cr (cr (cr (cr (cr (bodyOf Tryd.f3)))))))))))) f3_an.right.right.right.right.right.right.right.left.right.left.left (f3_m2 z) (kSeq r2 f3_an.right.right.right.right.right.right.right.left.right.left (kBlk 0 (kSeq k0 f3_an.right.right.right.right.right.right.right (kFin Tryd.prog f3_rs Tryd.f3)))) = f3_s2 n (fun y => k0 (f3_m0 y)) (fun y => r2 (f3_m2 y)) z := by
  rw [codeK_R, f3_e2]
  rfl
def f3_s1 (n : Nat) (k0 : f3_t0 → Option f3_rs.den) (z : f3_t1) : Option f3_rs.den :=
  rounds (fun r2 x' => f3_s2 n k0 r2 x') n (z.1, z.2.1, z.2.2.1, z.2.2.2.1, z.2.2.2.2)
theorem f3_q1 (n : Nat) (k0 : St → Option f3_rs.den) (z : f3_t1) : codeK Tryd.prog f3_sp n (cr (cl (cr (cr (cr (cr (cr (cr (cr (bodyOf Tryd.f3)))))))))) f3_an.right.right.right.right.right.right.right.left.right (f3_m1 z) (kSeq k0 f3_an.right.right.right.right.right.right.right (kFin Tryd.prog f3_rs Tryd.f3)) = f3_s1 n (fun y => k0 (f3_m0 y)) z :=
  Eq.trans (b := rounds (fun r2 st => codeK Tryd.prog f3_sp n (cl (cl (cr (cl (cr (cr (cr (cr (cr (cr (cr (bodyOf Tryd.f3)))))))))))) f3_an.right.right.right.right.right.right.right.left.right.left.left st (kSeq r2 f3_an.right.right.right.right.right.right.right.left.right.left (kBlk 0 (kSeq k0 f3_an.right.right.right.right.right.right.right (kFin Tryd.prog f3_rs Tryd.f3))))) n (f3_m2 (z.1, z.2.1, z.2.2.1, z.2.2.2.1, z.2.2.2.2))) (by kernel_rfl) (rounds_mk f3_m2 (fun r2 x' => by
    have := (f3_q2 n k0 r2 x')
    exact this) n _)
def f3_px (n : Nat) (k0 : f3_t0 → Option f3_rs.den) (k1 : f3_t1 → Option f3_rs.den) (x : f3_ps.den) : Option f3_rs.den :=
  ((f6 n ((⟨#[37, 122]⟩ : ByteArray), ((⟨#[]⟩ : ByteArray), (x.1, (false, ())))))).bind fun r1 =>
  bif (decide (x.1 < (-180000))) then
    bif (r1.2.1 == 1) then
      bif (r1.1.toList == (⟨#[]⟩ : ByteArray).toList) then
        ((f7 n ())).bind fun r2 =>
        some (r2.1, ())
      else
        some (false, ())
    else
      some (false, ())
  else
    bif (decide (x.1 > 180000)) then
      bif (r1.2.1 == 1) then
        bif (r1.1.toList == (⟨#[]⟩ : ByteArray).toList) then
          ((f7 n ())).bind fun r3 =>
          some (r3.1, ())
        else
          some (false, ())
      else
        some (false, ())
    else
      bif (r1.2.1 != 0) then
        bif (r1.2.1 == 15) then
          bif ((Int.tmod x.1 (60 : Int)) != 0) then
            ((f7 n ())).bind fun r5 =>
            some (r5.1, ())
          else
            some (false, ())
        else
          some (false, ())
      else
        bif ((ByteArray.size r1.1 : Int) == 0) then
          some (false, ())
        else
          k1 (x.1, r1.1, (0 : Int), (3600 : Int), (1 : Int))
def f3 (n : Nat) (x : f3_ps.den) : Option f3_rs.den := f3_px n (f3_s0 n) (f3_s1 n (f3_s0 n)) x
theorem f3_ex (n : Nat) (rc : Code → An → St → (Ex → St → Option f3_rs.den) → Option f3_rs.den) (x : f3_ps.den) : codeR rc Tryd.prog f3_sp n (bodyOf Tryd.f3) f3_an (start f3_ps x (Func.ntmps Tryd.f3)) (kFin Tryd.prog f3_rs Tryd.f3) = f3_px n (fun y => rc (cr (cr (cr (cr (cr (cr (cr (cr (bodyOf Tryd.f3))))))))) f3_an.right.right.right.right.right.right.right.right (f3_m0 y) (kFin Tryd.prog f3_rs Tryd.f3)) (fun y => rc (cr (cl (cr (cr (cr (cr (cr (cr (cr (bodyOf Tryd.f3)))))))))) f3_an.right.right.right.right.right.right.right.left.right (f3_m1 y) (kSeq (fun st => rc (cr (cr (cr (cr (cr (cr (cr (cr (bodyOf Tryd.f3))))))))) f3_an.right.right.right.right.right.right.right.right st (kFin Tryd.prog f3_rs Tryd.f3)) f3_an.right.right.right.right.right.right.right (kFin Tryd.prog f3_rs Tryd.f3))) x := by kernel_rfl
theorem f3_qx (n : Nat) (x : f3_ps.den) : codeK Tryd.prog f3_sp n (bodyOf Tryd.f3) f3_an (start f3_ps x (Func.ntmps Tryd.f3)) (kFin Tryd.prog f3_rs Tryd.f3) = f3 n x := by
  have h0 : (fun y => codeK Tryd.prog f3_sp n (cr (cr (cr (cr (cr (cr (cr (cr (bodyOf Tryd.f3))))))))) f3_an.right.right.right.right.right.right.right.right (f3_m0 y) (kFin Tryd.prog f3_rs Tryd.f3)) = (f3_s0 n) := funext fun y => by
    have := f3_q0 n  y
    exact this
  have h1 : (fun y => codeK Tryd.prog f3_sp n (cr (cl (cr (cr (cr (cr (cr (cr (cr (bodyOf Tryd.f3)))))))))) f3_an.right.right.right.right.right.right.right.left.right (f3_m1 y) (kSeq (fun st => codeK Tryd.prog f3_sp n (cr (cr (cr (cr (cr (cr (cr (cr (bodyOf Tryd.f3))))))))) f3_an.right.right.right.right.right.right.right.right st (kFin Tryd.prog f3_rs Tryd.f3)) f3_an.right.right.right.right.right.right.right (kFin Tryd.prog f3_rs Tryd.f3))) = (f3_s1 n (f3_s0 n)) := funext fun y => by
    have := f3_q1 n (fun st => codeK Tryd.prog f3_sp n (cr (cr (cr (cr (cr (cr (cr (cr (bodyOf Tryd.f3))))))))) f3_an.right.right.right.right.right.right.right.right st (kFin Tryd.prog f3_rs Tryd.f3)) y
    rw [h0] at this; exact this
  rw [codeK_R, f3_ex]
  rw [h0]
  rw [h1]
  rfl
def f3_spec : Sp := ⟨f3_ps, f3_rs, f3⟩
theorem f3_ok : Sound Tryd.prog CG 3 f3_spec := sound_of (look_cons f6_ok (look_cons f7_ok look_nil)) Tryd.func3 (by kernel_rfl) rfl f3_an f3_spec rfl rfl f3_qx
end Go.Proofs.YtadamegddcadcaaDoorPi
