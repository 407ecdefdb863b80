import Derived.Test.YtedenojeljjnaaaGreatDoorSrt
set_option linter.unusedVariables false
set_option maxRecDepth 100000
set_option maxHeartbeats 4000000
set_option linter.unusedVariables false
namespace Go.Proofs.YtedenojeljjnaaaGreatDoorPi
open Go Go.Proofs
abbrev D_footer_reader := (ByteArray × Unit)
abbrev D_api_At := (Int × (Int × Unit))
abbrev T_api_Local : Ty := (.pair (.int .i64) (.pair .bool T_footer_reader))
abbrev D_api_Local := (Int × (Bool × D_footer_reader))
abbrev D_api_Day := (Int × D_api_At)
abbrev T_noonmarkref17_Edge : Ty := (.pair .bool (.pair (.int .i64) T_api_Day))
abbrev D_noonmarkref17_Edge := (Bool × (Int × D_api_Day))
abbrev T_noonmarkref17_Spec : Ty := (.pair .str (.pair (.int .i64) (.pair .str (.pair (.int .i64) (.pair T_noonmarkref17_Edge (.pair T_noonmarkref17_Edge .unit))))))
abbrev D_noonmarkref17_Spec := (ByteArray × (Int × (ByteArray × (Int × (D_noonmarkref17_Edge × (D_noonmarkref17_Edge × Unit))))))
abbrev D_posix_spec := (D_noonmarkref17_Spec × Unit)
/-! ### noonmark/noonmarklaw26.light -/
abbrev noonmarklaw26_light_ps : Ty := T_posix_spec
abbrev noonmarklaw26_light_rs : Ty := (.pair .bool .unit)
def noonmarklaw26_light_sp : Specs := look []
def noonmarklaw26_light_an : An := .o
abbrev noonmarklaw26_light_R := Option (Bool × Unit)

def noonmarklaw26_light_px (_n : Nat) (x : D_posix_spec) : noonmarklaw26_light_R :=
  bif (decide ((ByteArray.size x.1.1 : Int) ≤ 50)) then
    some ((decide ((ByteArray.size x.1.2.2.1 : Int) ≤ 50)), ())
  else
    some (false, ())
def noonmarklaw26_light (n : Nat) (x : D_posix_spec) : noonmarklaw26_light_R := noonmarklaw26_light_px n x
theorem noonmarklaw26_light_ex (n : Nat) (rc : RC noonmarklaw26_light_R) (x : D_posix_spec) : codeR rc Tryz.prog noonmarklaw26_light_sp n (bodyOf Tryz.f4) noonmarklaw26_light_an (start noonmarklaw26_light_ps x (Func.ntmps Tryz.f4)) (kFin Tryz.prog noonmarklaw26_light_rs Tryz.f4) = noonmarklaw26_light_px n x := by kernel_rfl
theorem noonmarklaw26_light_qx (n : Nat) (x : D_posix_spec) : codeK Tryz.prog noonmarklaw26_light_sp n (bodyOf Tryz.f4) noonmarklaw26_light_an (start noonmarklaw26_light_ps x (Func.ntmps Tryz.f4)) (kFin Tryz.prog noonmarklaw26_light_rs Tryz.f4) = noonmarklaw26_light n x := by
  rw [codeK_R, noonmarklaw26_light_ex]
  rfl
def noonmarklaw26_light_spec : Sp := ⟨noonmarklaw26_light_ps, noonmarklaw26_light_rs, noonmarklaw26_light⟩
theorem noonmarklaw26_light_ok : SoundX Tryz.prog CX 4 (.f noonmarklaw26_light_spec) := sound_of look_nil Tryz.func4 (by kernel_rfl) rfl noonmarklaw26_light_an noonmarklaw26_light_spec rfl rfl noonmarklaw26_light_qx

/-! ### noonmark/civil.Leap -/
abbrev civil_Leap_ps : Ty := (.pair (.int .i64) .unit)
abbrev civil_Leap_rs : Ty := (.pair .bool .unit)
def civil_Leap_sp : Specs := look []
def civil_Leap_an : An := .o
abbrev civil_Leap_R := Option (Bool × Unit)

def civil_Leap_px (_n : Nat) (x : (Int × Unit)) : civil_Leap_R :=
  bif ((w64 (((BitVec.ofInt (IntKind.bits .i64) x.1) &&& (BitVec.ofInt (IntKind.bits .i64) (3 : Int))).toNat : Int)) == 0) then
    bif ((Int.tmod x.1 (25 : Int)) != 0) then
      some (true, ())
    else
      some (((w64 (((BitVec.ofInt (IntKind.bits .i64) x.1) &&& (BitVec.ofInt (IntKind.bits .i64) (15 : Int))).toNat : Int)) == 0), ())
  else
    some (false, ())
def civil_Leap (n : Nat) (x : (Int × Unit)) : civil_Leap_R := civil_Leap_px n x
theorem civil_Leap_ex (n : Nat) (rc : RC civil_Leap_R) (x : (Int × Unit)) : codeR rc Tryz.prog civil_Leap_sp n (bodyOf Tryz.f9) civil_Leap_an (start civil_Leap_ps x (Func.ntmps Tryz.f9)) (kFin Tryz.prog civil_Leap_rs Tryz.f9) = civil_Leap_px n x := by kernel_rfl
theorem civil_Leap_qx (n : Nat) (x : (Int × Unit)) : codeK Tryz.prog civil_Leap_sp n (bodyOf Tryz.f9) civil_Leap_an (start civil_Leap_ps x (Func.ntmps Tryz.f9)) (kFin Tryz.prog civil_Leap_rs Tryz.f9) = civil_Leap n x := by
  rw [codeK_R, civil_Leap_ex]
  rfl
def civil_Leap_spec : Sp := ⟨civil_Leap_ps, civil_Leap_rs, civil_Leap⟩
theorem civil_Leap_ok : SoundX Tryz.prog CX 9 (.f civil_Leap_spec) := sound_of look_nil Tryz.func9 (by kernel_rfl) rfl civil_Leap_an civil_Leap_spec rfl rfl civil_Leap_qx

/-! ### noonmark/civil.Long -/
abbrev civil_Long_ps : Ty := T_api_At
abbrev civil_Long_rs : Ty := (.pair (.int .i64) .unit)
def civil_Long_sp : Specs := look [(9, .f civil_Leap_spec)]
def civil_Long_an : An := .o
abbrev civil_Long_R := Option (Int × Unit)

def civil_Long_px (n : Nat) (x : D_api_At) : civil_Long_R :=
  bif (decide (x.2.1 < 1)) then
    some ((0 : Int), ())
  else
    bif (decide (x.2.1 > 12)) then
      some ((0 : Int), ())
    else
      bif (x.2.1 == 2) then
        ((civil_Leap n (x.1, ()))).bind fun v1 =>
        bif v1.1 then
          some ((29 : Int), ())
        else
          let t2 := w64 (x.2.1 - 1)
          bif decide (0 ≤ t2) then
            (((chain 12 (.int .i64) ((31 : Int), ((28 : Int), ((31 : Int), ((30 : Int), ((31 : Int), ((30 : Int), ((31 : Int), ((31 : Int), ((30 : Int), ((31 : Int), ((30 : Int), ((31 : Int), ())))))))))))))[Int.toNat t2]?)).bind fun c3 =>
            some (c3, ())
          else none
      else
        let t4 := w64 (x.2.1 - 1)
        bif decide (0 ≤ t4) then
          (((chain 12 (.int .i64) ((31 : Int), ((28 : Int), ((31 : Int), ((30 : Int), ((31 : Int), ((30 : Int), ((31 : Int), ((31 : Int), ((30 : Int), ((31 : Int), ((30 : Int), ((31 : Int), ())))))))))))))[Int.toNat t4]?)).bind fun c5 =>
          some (c5, ())
        else none
def civil_Long (n : Nat) (x : D_api_At) : civil_Long_R := civil_Long_px n x
theorem civil_Long_ex (n : Nat) (rc : RC civil_Long_R) (x : D_api_At) : codeR rc Tryz.prog civil_Long_sp n (bodyOf Tryz.f38) civil_Long_an (start civil_Long_ps x (Func.ntmps Tryz.f38)) (kFin Tryz.prog civil_Long_rs Tryz.f38) = civil_Long_px n x := by kernel_rfl
theorem civil_Long_qx (n : Nat) (x : D_api_At) : codeK Tryz.prog civil_Long_sp n (bodyOf Tryz.f38) civil_Long_an (start civil_Long_ps x (Func.ntmps Tryz.f38)) (kFin Tryz.prog civil_Long_rs Tryz.f38) = civil_Long n x := by
  rw [codeK_R, civil_Long_ex]
  rfl
def civil_Long_spec : Sp := ⟨civil_Long_ps, civil_Long_rs, civil_Long⟩
theorem civil_Long_ok : SoundX Tryz.prog CX 38 (.f civil_Long_spec) := sound_of (look_cons civil_Leap_ok look_nil) Tryz.func38 (by kernel_rfl) rfl civil_Long_an civil_Long_spec rfl rfl civil_Long_qx

/-! ### noonmark/civil.Right -/
abbrev civil_Right_ps : Ty := T_api_Day
abbrev civil_Right_rs : Ty := (.pair .bool .unit)
def civil_Right_sp : Specs := look [(38, .f civil_Long_spec)]
def civil_Right_an : An := .o
abbrev civil_Right_R := Option (Bool × Unit)

def civil_Right_px (n : Nat) (x : D_api_Day) : civil_Right_R :=
  bif (decide (x.1 ≥ (-9999))) then
    bif (decide (x.1 ≤ 9999)) then
      bif (decide (x.2.2.1 ≥ 1)) then
        ((civil_Long n (x.1, (x.2.1, ())))).bind fun v1 =>
        some ((decide (x.2.2.1 ≤ v1.1)), ())
      else
        some (false, ())
    else
      some (false, ())
  else
    some (false, ())
def civil_Right (n : Nat) (x : D_api_Day) : civil_Right_R := civil_Right_px n x
theorem civil_Right_ex (n : Nat) (rc : RC civil_Right_R) (x : D_api_Day) : codeR rc Tryz.prog civil_Right_sp n (bodyOf Tryz.f48) civil_Right_an (start civil_Right_ps x (Func.ntmps Tryz.f48)) (kFin Tryz.prog civil_Right_rs Tryz.f48) = civil_Right_px n x := by kernel_rfl
theorem civil_Right_qx (n : Nat) (x : D_api_Day) : codeK Tryz.prog civil_Right_sp n (bodyOf Tryz.f48) civil_Right_an (start civil_Right_ps x (Func.ntmps Tryz.f48)) (kFin Tryz.prog civil_Right_rs Tryz.f48) = civil_Right n x := by
  rw [codeK_R, civil_Right_ex]
  rfl
def civil_Right_spec : Sp := ⟨civil_Right_ps, civil_Right_rs, civil_Right⟩
theorem civil_Right_ok : SoundX Tryz.prog CX 48 (.f civil_Right_spec) := sound_of (look_cons civil_Long_ok look_nil) Tryz.func48 (by kernel_rfl) rfl civil_Right_an civil_Right_spec rfl rfl civil_Right_qx

/-! ### noonmark/civil.number -/
abbrev civil_number_ps : Ty := T_api_Day
abbrev civil_number_rs : Ty := (.pair (.int .i64) .unit)
def civil_number_sp : Specs := look []
def civil_number_an : An := (.s .o (.k [] [0,1,2] 0 .o .o))
abbrev civil_number_R := Option (Int × Unit)
noncomputable abbrev civil_number_c0 : Code := (cr (cr (bodyOf Tryz.f49)))
noncomputable abbrev civil_number_a0 : An := civil_number_an.right.right
abbrev civil_number_t0 := Int × Int × Int
def civil_number_m0 (z : civil_number_t0) : St := ⟨(.v ⟨(.int .i64), z.1⟩ :: .v ⟨(.int .i64), z.2.1⟩ :: .v ⟨(.int .i64), z.2.2⟩ :: jk 42 []), []⟩
def civil_number_p0 (_n : Nat) (z : civil_number_t0) : civil_number_R :=
  let t4 := w64 (Int.tdiv (w64 (z.1 + 12000)) (400 : Int))
  let t7 := w64 ((w64 (z.1 + 12000)) - (w64 (t4 * 400)))
  some ((w64 ((w64 ((w64 ((w64 ((w64 ((w64 (t4 * 146097)) + (w64 (t7 * 365)))) + (w64 (Int.tdiv t7 (4 : Int))))) - (w64 (Int.tdiv t7 (100 : Int))))) + (w64 ((w64 ((w64 (Int.tdiv (w64 ((w64 (153 * (w64 (z.2.1 - 3)))) + 2)) (5 : Int))) + z.2.2)) - 1)))) - 5102378)), ())
def civil_number_s0 (n : Nat) (z : civil_number_t0) : civil_number_R := civil_number_p0 n z
theorem civil_number_e0 (n : Nat) (rc : RC civil_number_R) (z : civil_number_t0) : codeR rc Tryz.prog civil_number_sp n civil_number_c0 civil_number_a0 (civil_number_m0 z) (kFin Tryz.prog civil_number_rs Tryz.f49) = civil_number_p0 n z := by kernel_rfl
theorem civil_number_q0 (n : Nat) (z : civil_number_t0) : codeK Tryz.prog civil_number_sp n civil_number_c0 civil_number_a0 (civil_number_m0 z) (kFin Tryz.prog civil_number_rs Tryz.f49) = civil_number_s0 n z := by
  rw [codeK_R, civil_number_e0]
  rfl
def civil_number_px (_n : Nat) (k0 : civil_number_t0 → civil_number_R) (x : D_api_Day) : civil_number_R :=
  bif (decide (x.2.1 ≤ 2)) then
    k0 ((w64 (x.1 - 1)), (w64 (x.2.1 + 12)), x.2.2.1)
  else
    k0 (x.1, x.2.1, x.2.2.1)
def civil_number (n : Nat) (x : D_api_Day) : civil_number_R := civil_number_px n (civil_number_s0 n) x
theorem civil_number_ex (n : Nat) (rc : RC civil_number_R) (x : D_api_Day) : codeR rc Tryz.prog civil_number_sp n (bodyOf Tryz.f49) civil_number_an (start civil_number_ps x (Func.ntmps Tryz.f49)) (kFin Tryz.prog civil_number_rs Tryz.f49) = civil_number_px n (fun y => rc civil_number_c0 civil_number_a0 (civil_number_m0 y) (kFin Tryz.prog civil_number_rs Tryz.f49)) x := by kernel_rfl
theorem civil_number_qx (n : Nat) (x : D_api_Day) : codeK Tryz.prog civil_number_sp n (bodyOf Tryz.f49) civil_number_an (start civil_number_ps x (Func.ntmps Tryz.f49)) (kFin Tryz.prog civil_number_rs Tryz.f49) = civil_number n x := by
  have h0 : (fun y => codeK Tryz.prog civil_number_sp n civil_number_c0 civil_number_a0 (civil_number_m0 y) (kFin Tryz.prog civil_number_rs Tryz.f49)) = (civil_number_s0 n) := funext fun y => by
    have := civil_number_q0 n  y
    exact this
  rw [codeK_R, civil_number_ex]
  rw [h0]
  rfl
def civil_number_spec : Sp := ⟨civil_number_ps, civil_number_rs, civil_number⟩
theorem civil_number_ok : SoundX Tryz.prog CX 49 (.f civil_number_spec) := sound_of look_nil Tryz.func49 (by kernel_rfl) rfl civil_number_an civil_number_spec rfl rfl civil_number_qx

/-! ### noonmark/civil.Days -/
abbrev civil_Days_ps : Ty := T_api_Day
abbrev civil_Days_rs : Ty := T_api_At
def civil_Days_sp : Specs := look [(48, .f civil_Right_spec), (49, .f civil_number_spec)]
def civil_Days_an : An := .o
abbrev civil_Days_R := Option D_api_At

def civil_Days_px (n : Nat) (x : D_api_Day) : civil_Days_R :=
  ((civil_Right n (x.1, (x.2.1, (x.2.2.1, ()))))).bind fun v1 =>
  bif (!v1.1) then
    some ((0 : Int), ((6 : Int), ()))
  else
    ((civil_number n (x.1, (x.2.1, (x.2.2.1, ()))))).bind fun v2 =>
    some (v2.1, ((0 : Int), ()))
def civil_Days (n : Nat) (x : D_api_Day) : civil_Days_R := civil_Days_px n x
theorem civil_Days_ex (n : Nat) (rc : RC civil_Days_R) (x : D_api_Day) : codeR rc Tryz.prog civil_Days_sp n (bodyOf Tryz.f28) civil_Days_an (start civil_Days_ps x (Func.ntmps Tryz.f28)) (kFin Tryz.prog civil_Days_rs Tryz.f28) = civil_Days_px n x := by kernel_rfl
theorem civil_Days_qx (n : Nat) (x : D_api_Day) : codeK Tryz.prog civil_Days_sp n (bodyOf Tryz.f28) civil_Days_an (start civil_Days_ps x (Func.ntmps Tryz.f28)) (kFin Tryz.prog civil_Days_rs Tryz.f28) = civil_Days n x := by
  rw [codeK_R, civil_Days_ex]
  rfl
def civil_Days_spec : Sp := ⟨civil_Days_ps, civil_Days_rs, civil_Days⟩
theorem civil_Days_ok : SoundX Tryz.prog CX 28 (.f civil_Days_spec) := sound_of (look_cons civil_Right_ok (look_cons civil_number_ok look_nil)) Tryz.func28 (by kernel_rfl) rfl civil_Days_an civil_Days_spec rfl rfl civil_Days_qx

/-! ### (noonmark/posix.spec).begin -/
abbrev posix_spec_begin_ps : Ty := (.pair T_posix_spec (.pair (.int .i64) .unit))
abbrev posix_spec_begin_rs : Ty := (.pair (.int .i64) .unit)
def posix_spec_begin_sp : Specs := look [(28, .f civil_Days_spec)]
def posix_spec_begin_an : An := .o
abbrev posix_spec_begin_R := Option (Int × Unit)

def posix_spec_begin_px (n : Nat) (x : (D_posix_spec × (Int × Unit))) : posix_spec_begin_R :=
  ((civil_Days n (x.2.1, ((1 : Int), ((1 : Int), ()))))).bind fun v1 =>
  some ((w64 ((w64 (v1.1 * 86400)) - x.1.1.2.1)), ())
def posix_spec_begin (n : Nat) (x : (D_posix_spec × (Int × Unit))) : posix_spec_begin_R := posix_spec_begin_px n x
theorem posix_spec_begin_ex (n : Nat) (rc : RC posix_spec_begin_R) (x : (D_posix_spec × (Int × Unit))) : codeR rc Tryz.prog posix_spec_begin_sp n (bodyOf Tryz.f13) posix_spec_begin_an (start posix_spec_begin_ps x (Func.ntmps Tryz.f13)) (kFin Tryz.prog posix_spec_begin_rs Tryz.f13) = posix_spec_begin_px n x := by kernel_rfl
theorem posix_spec_begin_qx (n : Nat) (x : (D_posix_spec × (Int × Unit))) : codeK Tryz.prog posix_spec_begin_sp n (bodyOf Tryz.f13) posix_spec_begin_an (start posix_spec_begin_ps x (Func.ntmps Tryz.f13)) (kFin Tryz.prog posix_spec_begin_rs Tryz.f13) = posix_spec_begin n x := by
  rw [codeK_R, posix_spec_begin_ex]
  rfl
def posix_spec_begin_spec : Sp := ⟨posix_spec_begin_ps, posix_spec_begin_rs, posix_spec_begin⟩
theorem posix_spec_begin_ok : SoundX Tryz.prog CX 13 (.f posix_spec_begin_spec) := sound_of (look_cons civil_Days_ok look_nil) Tryz.func13 (by kernel_rfl) rfl posix_spec_begin_an posix_spec_begin_spec rfl rfl posix_spec_begin_qx

/-! ### noonmark/format.Plain -/
abbrev format_Plain_ps : Ty := T_footer_reader
abbrev format_Plain_rs : Ty := (.pair .bool .unit)
def format_Plain_sp : Specs := look []
def format_Plain_an : An := (.s .o (.k [] [0] 0 (.k [] [0,7,8,9] 0 .o (.b (.l [] [0,7,8,9] 0 (.s .o (.s .o (.k [] [0,7,8,9] 0 (.b (.s .o (.s .o (.b (.k [] [0,7,8,9,15] 0 (.k [] [0,4,7,8,9,15] 0 .o .o) .o))))) .o)))))) .o))
abbrev format_Plain_R := Option (Bool × Unit)
noncomputable abbrev format_Plain_c0 : Code := (cr (cr (bodyOf Tryz.f29)))
noncomputable abbrev format_Plain_c1 : Code := (cr (cr (cr (cl (cl (cr (cl (cr (bodyOf Tryz.f29)))))))))
noncomputable abbrev format_Plain_c2 : Code := (cr (cl (cr (cr (cl (cl (cr (cr (cl (cl (cr (cl (cr (bodyOf Tryz.f29))))))))))))))
noncomputable abbrev format_Plain_c3 : Code := (cr (cl (cl (cr (cr (cl (cl (cr (cr (cl (cl (cr (cl (cr (bodyOf Tryz.f29)))))))))))))))
noncomputable abbrev format_Plain_c4 : Code := (cl (cl (cr (cl (cr (bodyOf Tryz.f29))))))
noncomputable abbrev format_Plain_c5 : Code := (cr (cl (cr (bodyOf Tryz.f29))))
noncomputable abbrev format_Plain_a0 : An := format_Plain_an.right.right
noncomputable abbrev format_Plain_a1 : An := format_Plain_an.right.left.right.left.left.right.right.right
noncomputable abbrev format_Plain_a2 : An := format_Plain_an.right.left.right.left
noncomputable abbrev format_Plain_a3 : An := format_Plain_an.right.left.right.left.left.right.right.left.left.right.right.left.right
noncomputable abbrev format_Plain_a4 : An := format_Plain_an.right.left.right.left.left.right.right
noncomputable abbrev format_Plain_a5 : An := format_Plain_an.right.left.right.left.left.right.right.left.left.right.right.left.left.right
noncomputable abbrev format_Plain_a6 : An := format_Plain_an.right.left.right.left.left.right.right.left.left.right.right.left
noncomputable abbrev format_Plain_a7 : An := format_Plain_an.right.left.right.left.left
noncomputable abbrev format_Plain_a8 : An := format_Plain_an.right.left.right
noncomputable abbrev format_Plain_K0 (r2 k0 : St → format_Plain_R) : Ex → St → format_Plain_R := (kSeq r2 format_Plain_a2 (kBlk 0 (kSeq k0 format_Plain_an.right (kFin Tryz.prog format_Plain_rs Tryz.f29))))
noncomputable abbrev format_Plain_K1 (k3 r2 k0 : St → format_Plain_R) : Ex → St → format_Plain_R := (kBlk 2 (kBlk 1 (kSeq k3 format_Plain_a4 (kSeq r2 format_Plain_a2 (kBlk 0 (kSeq k0 format_Plain_an.right (kFin Tryz.prog format_Plain_rs Tryz.f29)))))))
noncomputable abbrev format_Plain_K2 (k4 k3 r2 k0 : St → format_Plain_R) : Ex → St → format_Plain_R := (kSeq k4 format_Plain_a6 (kBlk 2 (kBlk 1 (kSeq k3 format_Plain_a4 (kSeq r2 format_Plain_a2 (kBlk 0 (kSeq k0 format_Plain_an.right (kFin Tryz.prog format_Plain_rs Tryz.f29))))))))
noncomputable abbrev format_Plain_K3 (r2 k0 : St → format_Plain_R) : Ex → St → format_Plain_R := (kSeq r2 format_Plain_a2 (kBlk 0 (kSeq k0 format_Plain_an.right (kFin Tryz.prog format_Plain_rs Tryz.f29))))
noncomputable abbrev format_Plain_K4 (k0 : St → format_Plain_R) : Ex → St → format_Plain_R := (kSeq k0 format_Plain_an.right (kFin Tryz.prog format_Plain_rs Tryz.f29))
abbrev format_Plain_t0 := ByteArray
def format_Plain_m0 (z : format_Plain_t0) : St := ⟨(.v ⟨.str, z⟩ :: jk 44 []), []⟩
abbrev format_Plain_t1 := ByteArray × (List Int) × Int × Int
def format_Plain_m1 (z : format_Plain_t1) : St := ⟨(.v ⟨.str, z.1⟩ :: jk 6 (.v ⟨(.list (.int .u8)), z.2.1⟩ :: .v ⟨(.int .i64), z.2.2.1⟩ :: .v ⟨(.int .i64), z.2.2.2⟩ :: jk 35 [])), []⟩
abbrev format_Plain_t2 := ByteArray × (List Int) × Int × Int
def format_Plain_m2 (z : format_Plain_t2) : St := ⟨(.v ⟨.str, z.1⟩ :: jk 6 (.v ⟨(.list (.int .u8)), z.2.1⟩ :: .v ⟨(.int .i64), z.2.2.1⟩ :: .v ⟨(.int .i64), z.2.2.2⟩ :: jk 35 [])), []⟩
abbrev format_Plain_t3 := ByteArray × (List Int) × Int × Int
def format_Plain_m3 (z : format_Plain_t3) : St := ⟨(.v ⟨.str, z.1⟩ :: jk 6 (.v ⟨(.list (.int .u8)), z.2.1⟩ :: .v ⟨(.int .i64), z.2.2.1⟩ :: .v ⟨(.int .i64), z.2.2.2⟩ :: jk 35 [])), []⟩
abbrev format_Plain_t4 := ByteArray × (List Int) × Int × Int × Bool
def format_Plain_m4 (z : format_Plain_t4) : St := ⟨(.v ⟨.str, z.1⟩ :: jk 6 (.v ⟨(.list (.int .u8)), z.2.1⟩ :: .v ⟨(.int .i64), z.2.2.1⟩ :: .v ⟨(.int .i64), z.2.2.2.1⟩ :: jk 5 (.v ⟨.bool, z.2.2.2.2⟩ :: jk 29 []))), []⟩
abbrev format_Plain_t5 := ByteArray × Int × (List Int) × Int × Int × Bool
def format_Plain_m5 (z : format_Plain_t5) : St := ⟨(.v ⟨.str, z.1⟩ :: jk 3 (.v ⟨(.int .u8), z.2.1⟩ :: .junk :: .junk :: .v ⟨(.list (.int .u8)), z.2.2.1⟩ :: .v ⟨(.int .i64), z.2.2.2.1⟩ :: .v ⟨(.int .i64), z.2.2.2.2.1⟩ :: jk 5 (.v ⟨.bool, z.2.2.2.2.2⟩ :: jk 29 []))), []⟩
def format_Plain_p0 (_n : Nat) (z : format_Plain_t0) : format_Plain_R :=
  bif (decide ((ByteArray.size z : Int) ≥ 3)) then
    some ((decide ((ByteArray.size z : Int) ≤ 6)), ())
  else
    some (false, ())
def format_Plain_s0 (n : Nat) (z : format_Plain_t0) : format_Plain_R := format_Plain_p0 n z
theorem format_Plain_e0 (n : Nat) (rc : RC format_Plain_R) (z : format_Plain_t0) : codeR rc Tryz.prog format_Plain_sp n format_Plain_c0 format_Plain_a0 (format_Plain_m0 z) (kFin Tryz.prog format_Plain_rs Tryz.f29) = format_Plain_p0 n z := by kernel_rfl
theorem format_Plain_q0 (n : Nat) (z : format_Plain_t0) : codeK Tryz.prog format_Plain_sp n format_Plain_c0 format_Plain_a0 (format_Plain_m0 z) (kFin Tryz.prog format_Plain_rs Tryz.f29) = format_Plain_s0 n z := by
  rw [codeK_R, format_Plain_e0]
  rfl
def format_Plain_p3 (_n : Nat) (_k0 : format_Plain_t0 → format_Plain_R) (r2 : format_Plain_t2 → format_Plain_R) (z : format_Plain_t3) : format_Plain_R :=
  r2 (z.1, z.2.1, z.2.2.1, (w64 (z.2.2.2 + 1)))
def format_Plain_s3 (n : Nat) (k0 : format_Plain_t0 → format_Plain_R) (r2 : format_Plain_t2 → format_Plain_R) (z : format_Plain_t3) : format_Plain_R := format_Plain_p3 n k0 r2 z
theorem format_Plain_e3 (n : Nat) (k0 : St → format_Plain_R) (r2 : St → format_Plain_R) (rc : RC format_Plain_R) (z : format_Plain_t3) : codeR rc Tryz.prog format_Plain_sp n format_Plain_c1 format_Plain_a1 (format_Plain_m3 z) (format_Plain_K0 r2 k0) = format_Plain_p3 n (fun y => k0 (format_Plain_m0 y)) (fun y => r2 (format_Plain_m2 y)) z := by kernel_rfl
theorem format_Plain_q3 (n : Nat) (k0 : St → format_Plain_R) (r2 : St → format_Plain_R) (z : format_Plain_t3) : codeK Tryz.prog format_Plain_sp n format_Plain_c1 format_Plain_a1 (format_Plain_m3 z) (format_Plain_K0 r2 k0) = format_Plain_s3 n (fun y => k0 (format_Plain_m0 y)) (fun y => r2 (format_Plain_m2 y)) z := by
  rw [codeK_R, format_Plain_e3]
  rfl
def format_Plain_p4 (_n : Nat) (_k0 : format_Plain_t0 → format_Plain_R) (_r2 : format_Plain_t2 → format_Plain_R) (k3 : format_Plain_t3 → format_Plain_R) (z : format_Plain_t4) : format_Plain_R :=
  bif z.2.2.2.2 then
    k3 (z.1, z.2.1, z.2.2.1, z.2.2.2.1)
  else
    some (false, ())
def format_Plain_s4 (n : Nat) (k0 : format_Plain_t0 → format_Plain_R) (r2 : format_Plain_t2 → format_Plain_R) (k3 : format_Plain_t3 → format_Plain_R) (z : format_Plain_t4) : format_Plain_R := format_Plain_p4 n k0 r2 k3 z
theorem format_Plain_e4 (n : Nat) (k0 : St → format_Plain_R) (r2 : St → format_Plain_R) (k3 : St → format_Plain_R) (rc : RC format_Plain_R) (z : format_Plain_t4) : codeR rc Tryz.prog format_Plain_sp n format_Plain_c2 format_Plain_a3 (format_Plain_m4 z) (format_Plain_K1 k3 r2 k0) = format_Plain_p4 n (fun y => k0 (format_Plain_m0 y)) (fun y => r2 (format_Plain_m2 y)) (fun y => k3 (format_Plain_m3 y)) z := by kernel_rfl
theorem format_Plain_q4 (n : Nat) (k0 : St → format_Plain_R) (r2 : St → format_Plain_R) (k3 : St → format_Plain_R) (z : format_Plain_t4) : codeK Tryz.prog format_Plain_sp n format_Plain_c2 format_Plain_a3 (format_Plain_m4 z) (format_Plain_K1 k3 r2 k0) = format_Plain_s4 n (fun y => k0 (format_Plain_m0 y)) (fun y => r2 (format_Plain_m2 y)) (fun y => k3 (format_Plain_m3 y)) z := by
  rw [codeK_R, format_Plain_e4]
  rfl
def format_Plain_p5 (_n : Nat) (_k0 : format_Plain_t0 → format_Plain_R) (_r2 : format_Plain_t2 → format_Plain_R) (_k3 : format_Plain_t3 → format_Plain_R) (k4 : format_Plain_t4 → format_Plain_R) (z : format_Plain_t5) : format_Plain_R :=
  bif z.2.2.2.2.2 then
    k4 (z.1, z.2.2.1, z.2.2.2.1, z.2.2.2.2.1, true)
  else
    bif (decide (48 ≤ z.2.1)) then
      bif (decide (z.2.1 ≤ 57)) then
        k4 (z.1, z.2.2.1, z.2.2.2.1, z.2.2.2.2.1, true)
      else
        bif (z.2.1 == 43) then
          k4 (z.1, z.2.2.1, z.2.2.2.1, z.2.2.2.2.1, true)
        else
          k4 (z.1, z.2.2.1, z.2.2.2.1, z.2.2.2.2.1, (z.2.1 == 45))
    else
      bif (z.2.1 == 43) then
        k4 (z.1, z.2.2.1, z.2.2.2.1, z.2.2.2.2.1, true)
      else
        k4 (z.1, z.2.2.1, z.2.2.2.1, z.2.2.2.2.1, (z.2.1 == 45))
def format_Plain_s5 (n : Nat) (k0 : format_Plain_t0 → format_Plain_R) (r2 : format_Plain_t2 → format_Plain_R) (k3 : format_Plain_t3 → format_Plain_R) (k4 : format_Plain_t4 → format_Plain_R) (z : format_Plain_t5) : format_Plain_R := format_Plain_p5 n k0 r2 k3 k4 z
theorem format_Plain_e5 (n : Nat) (k0 : St → format_Plain_R) (r2 : St → format_Plain_R) (k3 : St → format_Plain_R) (k4 : St → format_Plain_R) (rc : RC format_Plain_R) (z : format_Plain_t5) : codeR rc Tryz.prog format_Plain_sp n format_Plain_c3 format_Plain_a5 (format_Plain_m5 z) (format_Plain_K2 k4 k3 r2 k0) = format_Plain_p5 n (fun y => k0 (format_Plain_m0 y)) (fun y => r2 (format_Plain_m2 y)) (fun y => k3 (format_Plain_m3 y)) (fun y => k4 (format_Plain_m4 y)) z := by kernel_rfl
theorem format_Plain_q5 (n : Nat) (k0 : St → format_Plain_R) (r2 : St → format_Plain_R) (k3 : St → format_Plain_R) (k4 : St → format_Plain_R) (z : format_Plain_t5) : codeK Tryz.prog format_Plain_sp n format_Plain_c3 format_Plain_a5 (format_Plain_m5 z) (format_Plain_K2 k4 k3 r2 k0) = format_Plain_s5 n (fun y => k0 (format_Plain_m0 y)) (fun y => r2 (format_Plain_m2 y)) (fun y => k3 (format_Plain_m3 y)) (fun y => k4 (format_Plain_m4 y)) z := by
  rw [codeK_R, format_Plain_e5]
  rfl
def format_Plain_p2 (_n : Nat) (k0 : format_Plain_t0 → format_Plain_R) (_r2 : format_Plain_t2 → format_Plain_R) (k3 : format_Plain_t3 → format_Plain_R) (k4 : format_Plain_t4 → format_Plain_R) (k5 : format_Plain_t5 → format_Plain_R) (z : format_Plain_t2) : format_Plain_R :=
  bif (decide (z.2.2.2 < z.2.2.1)) then
    bif decide (0 ≤ z.2.2.2) then
      ((z.2.1[Int.toNat z.2.2.2]?)).bind fun e2 =>
      let t3 := w8 (((BitVec.ofInt (IntKind.bits .u8) e2) ||| (BitVec.ofInt (IntKind.bits .u8) (32 : Int))).toNat : Int)
      bif (decide (97 ≤ t3)) then
        bif (decide (t3 ≤ 122)) then
          k5 (z.1, e2, z.2.1, z.2.2.1, z.2.2.2, (decide (e2 < 128)))
        else
          k5 (z.1, e2, z.2.1, z.2.2.1, z.2.2.2, false)
      else
        k5 (z.1, e2, z.2.1, z.2.2.1, z.2.2.2, false)
    else none
  else
    k0 z.1
def format_Plain_s2 (n : Nat) (k0 : format_Plain_t0 → format_Plain_R) (r2 : format_Plain_t2 → format_Plain_R) (z : format_Plain_t2) : format_Plain_R := format_Plain_p2 n k0 r2 (format_Plain_s3 n k0 r2) (format_Plain_s4 n k0 r2 (format_Plain_s3 n k0 r2)) (format_Plain_s5 n k0 r2 (format_Plain_s3 n k0 r2) (format_Plain_s4 n k0 r2 (format_Plain_s3 n k0 r2))) z
theorem format_Plain_e2 (n : Nat) (k0 : St → format_Plain_R) (r2 : St → format_Plain_R) (rc : RC format_Plain_R) (z : format_Plain_t2) : codeR rc Tryz.prog format_Plain_sp n format_Plain_c4 format_Plain_a7 (format_Plain_m2 z) (format_Plain_K3 r2 k0) = format_Plain_p2 n (fun y => k0 (format_Plain_m0 y)) (fun y => r2 (format_Plain_m2 y)) (fun y => rc format_Plain_c1 format_Plain_a1 (format_Plain_m3 y) (format_Plain_K0 r2 k0)) (fun y => rc format_Plain_c2 format_Plain_a3 (format_Plain_m4 y) (format_Plain_K1 (fun st => rc format_Plain_c1 format_Plain_a1 st (format_Plain_K0 r2 k0)) r2 k0)) (fun y => rc format_Plain_c3 format_Plain_a5 (format_Plain_m5 y) (format_Plain_K2 (fun st => rc format_Plain_c2 format_Plain_a3 st (format_Plain_K1 (fun st => rc format_Plain_c1 format_Plain_a1 st (format_Plain_K0 r2 k0)) r2 k0)) (fun st => rc format_Plain_c1 format_Plain_a1 st (format_Plain_K0 r2 k0)) r2 k0)) z := by kernel_rfl
theorem format_Plain_q2 (n : Nat) (k0 : St → format_Plain_R) (r2 : St → format_Plain_R) (z : format_Plain_t2) : codeK Tryz.prog format_Plain_sp n format_Plain_c4 format_Plain_a7 (format_Plain_m2 z) (format_Plain_K3 r2 k0) = format_Plain_s2 n (fun y => k0 (format_Plain_m0 y)) (fun y => r2 (format_Plain_m2 y)) z := by
  have h3 : (fun y => codeK Tryz.prog format_Plain_sp n format_Plain_c1 format_Plain_a1 (format_Plain_m3 y) (format_Plain_K0 r2 k0)) = (format_Plain_s3 n (fun y => k0 (format_Plain_m0 y)) (fun y => r2 (format_Plain_m2 y))) := funext fun y => by
    have := format_Plain_q3 n k0 r2 y
    exact this
  have h4 : (fun y => codeK Tryz.prog format_Plain_sp n format_Plain_c2 format_Plain_a3 (format_Plain_m4 y) (format_Plain_K1 (fun st => codeK Tryz.prog format_Plain_sp n format_Plain_c1 format_Plain_a1 st (format_Plain_K0 r2 k0)) r2 k0)) = (format_Plain_s4 n (fun y => k0 (format_Plain_m0 y)) (fun y => r2 (format_Plain_m2 y)) (format_Plain_s3 n (fun y => k0 (format_Plain_m0 y)) (fun y => r2 (format_Plain_m2 y)))) := funext fun y => by
    have := format_Plain_q4 n k0 r2 (fun st => codeK Tryz.prog format_Plain_sp n format_Plain_c1 format_Plain_a1 st (format_Plain_K0 r2 k0)) y
    rw [h3] at this; exact this
  have h5 : (fun y => codeK Tryz.prog format_Plain_sp n format_Plain_c3 format_Plain_a5 (format_Plain_m5 y) (format_Plain_K2 (fun st => codeK Tryz.prog format_Plain_sp n format_Plain_c2 format_Plain_a3 st (format_Plain_K1 (fun st => codeK Tryz.prog format_Plain_sp n format_Plain_c1 format_Plain_a1 st (format_Plain_K0 r2 k0)) r2 k0)) (fun st => codeK Tryz.prog format_Plain_sp n format_Plain_c1 format_Plain_a1 st (format_Plain_K0 r2 k0)) r2 k0)) = (format_Plain_s5 n (fun y => k0 (format_Plain_m0 y)) (fun y => r2 (format_Plain_m2 y)) (format_Plain_s3 n (fun y => k0 (format_Plain_m0 y)) (fun y => r2 (format_Plain_m2 y))) (format_Plain_s4 n (fun y => k0 (format_Plain_m0 y)) (fun y => r2 (format_Plain_m2 y)) (format_Plain_s3 n (fun y => k0 (format_Plain_m0 y)) (fun y => r2 (format_Plain_m2 y))))) := funext fun y => by
    have := format_Plain_q5 n k0 r2 (fun st => codeK Tryz.prog format_Plain_sp n format_Plain_c1 format_Plain_a1 st (format_Plain_K0 r2 k0)) (fun st => codeK Tryz.prog format_Plain_sp n format_Plain_c2 format_Plain_a3 st (format_Plain_K1 (fun st => codeK Tryz.prog format_Plain_sp n format_Plain_c1 format_Plain_a1 st (format_Plain_K0 r2 k0)) r2 k0)) y
    rw [h3] at this; rw [h4] at this; exact this
  rw [codeK_R, format_Plain_e2]
  rw [h3]
  rw [h4]
  rw [h5]
  rfl
def format_Plain_s1 (n : Nat) (k0 : format_Plain_t0 → format_Plain_R) (z : format_Plain_t1) : format_Plain_R :=
  rounds (fun r2 x' => format_Plain_s2 n k0 r2 x') n (z.1, z.2.1, z.2.2.1, z.2.2.2)
theorem format_Plain_q1 (n : Nat) (k0 : St → format_Plain_R) (z : format_Plain_t1) : codeK Tryz.prog format_Plain_sp n format_Plain_c5 format_Plain_a8 (format_Plain_m1 z) (format_Plain_K4 k0) = format_Plain_s1 n (fun y => k0 (format_Plain_m0 y)) z :=
  Eq.trans (b := rounds (fun r2 st => codeK Tryz.prog format_Plain_sp n format_Plain_c4 format_Plain_a7 st (format_Plain_K3 r2 k0)) n (format_Plain_m2 (z.1, z.2.1, z.2.2.1, z.2.2.2))) (by kernel_rfl) (rounds_mk format_Plain_m2 (fun r2 x' => by
    have := (format_Plain_q2 n k0 r2 x')
    exact this) n _)
def format_Plain_px (_n : Nat) (k0 : format_Plain_t0 → format_Plain_R) (k1 : format_Plain_t1 → format_Plain_R) (x : D_footer_reader) : format_Plain_R :=
  let t1 := bytesOf x.1
  k1 (x.1, t1, (List.length t1 : Int), (0 : Int))
def format_Plain (n : Nat) (x : D_footer_reader) : format_Plain_R := format_Plain_px n (format_Plain_s0 n) (format_Plain_s1 n (format_Plain_s0 n)) x
theorem format_Plain_ex (n : Nat) (rc : RC format_Plain_R) (x : D_footer_reader) : codeR rc Tryz.prog format_Plain_sp n (bodyOf Tryz.f29) format_Plain_an (start format_Plain_ps x (Func.ntmps Tryz.f29)) (kFin Tryz.prog format_Plain_rs Tryz.f29) = format_Plain_px n (fun y => rc format_Plain_c0 format_Plain_a0 (format_Plain_m0 y) (kFin Tryz.prog format_Plain_rs Tryz.f29)) (fun y => rc format_Plain_c5 format_Plain_a8 (format_Plain_m1 y) (format_Plain_K4 (fun st => rc format_Plain_c0 format_Plain_a0 st (kFin Tryz.prog format_Plain_rs Tryz.f29)))) x := by kernel_rfl
theorem format_Plain_qx (n : Nat) (x : D_footer_reader) : codeK Tryz.prog format_Plain_sp n (bodyOf Tryz.f29) format_Plain_an (start format_Plain_ps x (Func.ntmps Tryz.f29)) (kFin Tryz.prog format_Plain_rs Tryz.f29) = format_Plain n x := by
  have h0 : (fun y => codeK Tryz.prog format_Plain_sp n format_Plain_c0 format_Plain_a0 (format_Plain_m0 y) (kFin Tryz.prog format_Plain_rs Tryz.f29)) = (format_Plain_s0 n) := funext fun y => by
    have := format_Plain_q0 n  y
    exact this
  have h1 : (fun y => codeK Tryz.prog format_Plain_sp n format_Plain_c5 format_Plain_a8 (format_Plain_m1 y) (format_Plain_K4 (fun st => codeK Tryz.prog format_Plain_sp n format_Plain_c0 format_Plain_a0 st (kFin Tryz.prog format_Plain_rs Tryz.f29)))) = (format_Plain_s1 n (format_Plain_s0 n)) := funext fun y => by
    have := format_Plain_q1 n (fun st => codeK Tryz.prog format_Plain_sp n format_Plain_c0 format_Plain_a0 st (kFin Tryz.prog format_Plain_rs Tryz.f29)) y
    rw [h0] at this; exact this
  rw [codeK_R, format_Plain_ex]
  rw [h0]
  rw [h1]
  rfl
def format_Plain_spec : Sp := ⟨format_Plain_ps, format_Plain_rs, format_Plain⟩
theorem format_Plain_ok : SoundX Tryz.prog CX 29 (.f format_Plain_spec) := sound_of look_nil Tryz.func29 (by kernel_rfl) rfl format_Plain_an format_Plain_spec rfl rfl format_Plain_qx

/-! ### noonmark/footer.within -/
abbrev footer_within_ps : Ty := T_api_Day
abbrev footer_within_rs : Ty := (.pair .bool .unit)
def footer_within_sp : Specs := look []
def footer_within_an : An := .o
abbrev footer_within_R := Option (Bool × Unit)

def footer_within_px (_n : Nat) (x : D_api_Day) : footer_within_R :=
  bif (decide (x.1 ≥ x.2.1)) then
    some ((decide (x.1 ≤ x.2.2.1)), ())
  else
    some (false, ())
def footer_within (n : Nat) (x : D_api_Day) : footer_within_R := footer_within_px n x
theorem footer_within_ex (n : Nat) (rc : RC footer_within_R) (x : D_api_Day) : codeR rc Tryz.prog footer_within_sp n (bodyOf Tryz.f30) footer_within_an (start footer_within_ps x (Func.ntmps Tryz.f30)) (kFin Tryz.prog footer_within_rs Tryz.f30) = footer_within_px n x := by kernel_rfl
theorem footer_within_qx (n : Nat) (x : D_api_Day) : codeK Tryz.prog footer_within_sp n (bodyOf Tryz.f30) footer_within_an (start footer_within_ps x (Func.ntmps Tryz.f30)) (kFin Tryz.prog footer_within_rs Tryz.f30) = footer_within n x := by
  rw [codeK_R, footer_within_ex]
  rfl
def footer_within_spec : Sp := ⟨footer_within_ps, footer_within_rs, footer_within⟩
theorem footer_within_ok : SoundX Tryz.prog CX 30 (.f footer_within_spec) := sound_of look_nil Tryz.func30 (by kernel_rfl) rfl footer_within_an footer_within_spec rfl rfl footer_within_qx

/-! ### (noonmark/footer.Edge).right -/
abbrev footer_Edge_right_ps : Ty := (.pair T_noonmarkref17_Edge .unit)
abbrev footer_Edge_right_rs : Ty := (.pair .bool .unit)
def footer_Edge_right_sp : Specs := look [(30, .f footer_within_spec)]
def footer_Edge_right_an : An := .o
abbrev footer_Edge_right_R := Option (Bool × Unit)

def footer_Edge_right_px (n : Nat) (x : (D_noonmarkref17_Edge × Unit)) : footer_Edge_right_R :=
  bif x.1.1 then
    ((footer_within n (x.1.2.1, ((1 : Int), ((365 : Int), ()))))).bind fun v1 =>
    bif v1.1 then
      bif (x.1.2.2.1 == 0) then
        bif (x.1.2.2.2.1 == 0) then
          ((footer_within n (x.1.2.2.2.2.1, ((-604799 : Int), ((604799 : Int), ()))))).bind fun v2 =>
          some (v2.1, ())
        else
          some (false, ())
      else
        some (false, ())
    else
      some (false, ())
  else
    ((footer_within n (x.1.2.2.1, ((1 : Int), ((12 : Int), ()))))).bind fun v3 =>
    bif v3.1 then
      ((footer_within n (x.1.2.2.2.1, ((1 : Int), ((5 : Int), ()))))).bind fun v4 =>
      bif v4.1 then
        ((footer_within n (x.1.2.1, ((0 : Int), ((6 : Int), ()))))).bind fun v5 =>
        bif v5.1 then
          ((footer_within n (x.1.2.2.2.2.1, ((-604799 : Int), ((604799 : Int), ()))))).bind fun v6 =>
          some (v6.1, ())
        else
          some (false, ())
      else
        some (false, ())
    else
      some (false, ())
def footer_Edge_right (n : Nat) (x : (D_noonmarkref17_Edge × Unit)) : footer_Edge_right_R := footer_Edge_right_px n x
theorem footer_Edge_right_ex (n : Nat) (rc : RC footer_Edge_right_R) (x : (D_noonmarkref17_Edge × Unit)) : codeR rc Tryz.prog footer_Edge_right_sp n (bodyOf Tryz.f31) footer_Edge_right_an (start footer_Edge_right_ps x (Func.ntmps Tryz.f31)) (kFin Tryz.prog footer_Edge_right_rs Tryz.f31) = footer_Edge_right_px n x := by kernel_rfl
theorem footer_Edge_right_qx (n : Nat) (x : (D_noonmarkref17_Edge × Unit)) : codeK Tryz.prog footer_Edge_right_sp n (bodyOf Tryz.f31) footer_Edge_right_an (start footer_Edge_right_ps x (Func.ntmps Tryz.f31)) (kFin Tryz.prog footer_Edge_right_rs Tryz.f31) = footer_Edge_right n x := by
  rw [codeK_R, footer_Edge_right_ex]
  rfl
def footer_Edge_right_spec : Sp := ⟨footer_Edge_right_ps, footer_Edge_right_rs, footer_Edge_right⟩
theorem footer_Edge_right_ok : SoundX Tryz.prog CX 31 (.f footer_Edge_right_spec) := sound_of (look_cons footer_within_ok look_nil) Tryz.func31 (by kernel_rfl) rfl footer_Edge_right_an footer_Edge_right_spec rfl rfl footer_Edge_right_qx

/-! ### noonmark/footer.Right -/
abbrev footer_Right_ps : Ty := T_posix_spec
abbrev footer_Right_rs : Ty := (.pair .bool .unit)
def footer_Right_sp : Specs := look [(29, .f format_Plain_spec), (30, .f footer_within_spec), (31, .f footer_Edge_right_spec)]
def footer_Right_an : An := .o
abbrev footer_Right_R := Option (Bool × Unit)

def footer_Right_px (n : Nat) (x : D_posix_spec) : footer_Right_R :=
  ((format_Plain n (x.1.1, ()))).bind fun v1 =>
  bif v1.1 then
    ((footer_within n (x.1.2.1, ((-86400 : Int), ((86400 : Int), ()))))).bind fun v2 =>
    bif (x.1.2.2.1.toList == (⟨#[]⟩ : ByteArray).toList) then
      bif v2.1 then
        some ((eqD T_noonmarkref17_Spec x.1 (x.1.1, (x.1.2.1, ((⟨#[]⟩ : ByteArray), ((0 : Int), ((false, ((0 : Int), ((0 : Int), ((0 : Int), ((0 : Int), ()))))), ((false, ((0 : Int), ((0 : Int), ((0 : Int), ((0 : Int), ()))))), ()))))))), ())
      else
        some (false, ())
    else
      bif v2.1 then
        ((format_Plain n (x.1.2.2.1, ()))).bind fun v3 =>
        bif v3.1 then
          ((footer_within n (x.1.2.2.2.1, ((-86400 : Int), ((86400 : Int), ()))))).bind fun v4 =>
          bif v4.1 then
            ((footer_Edge_right n (x.1.2.2.2.2.1, ()))).bind fun v5 =>
            bif v5.1 then
              ((footer_Edge_right n (x.1.2.2.2.2.2.1, ()))).bind fun v6 =>
              some (v6.1, ())
            else
              some (false, ())
          else
            some (false, ())
        else
          some (false, ())
      else
        some (false, ())
  else
    bif (x.1.2.2.1.toList == (⟨#[]⟩ : ByteArray).toList) then
      some (false, ())
    else
      some (false, ())
def footer_Right (n : Nat) (x : D_posix_spec) : footer_Right_R := footer_Right_px n x
theorem footer_Right_ex (n : Nat) (rc : RC footer_Right_R) (x : D_posix_spec) : codeR rc Tryz.prog footer_Right_sp n (bodyOf Tryz.f17) footer_Right_an (start footer_Right_ps x (Func.ntmps Tryz.f17)) (kFin Tryz.prog footer_Right_rs Tryz.f17) = footer_Right_px n x := by kernel_rfl
theorem footer_Right_qx (n : Nat) (x : D_posix_spec) : codeK Tryz.prog footer_Right_sp n (bodyOf Tryz.f17) footer_Right_an (start footer_Right_ps x (Func.ntmps Tryz.f17)) (kFin Tryz.prog footer_Right_rs Tryz.f17) = footer_Right n x := by
  rw [codeK_R, footer_Right_ex]
  rfl
def footer_Right_spec : Sp := ⟨footer_Right_ps, footer_Right_rs, footer_Right⟩
theorem footer_Right_ok : SoundX Tryz.prog CX 17 (.f footer_Right_spec) := sound_of (look_cons format_Plain_ok (look_cons footer_within_ok (look_cons footer_Edge_right_ok look_nil))) Tryz.func17 (by kernel_rfl) rfl footer_Right_an footer_Right_spec rfl rfl footer_Right_qx

/-! ### noonmark/civil.Clock -/
abbrev civil_Clock_ps : Ty := (.pair (.int .i64) .unit)
abbrev civil_Clock_rs : Ty := T_api_At
def civil_Clock_sp : Specs := look []
def civil_Clock_an : An := (.s .o (.s .o (.k [] [0,2] 0 .o .o)))
abbrev civil_Clock_R := Option D_api_At
noncomputable abbrev civil_Clock_c0 : Code := (cr (cr (cr (bodyOf Tryz.f35))))
noncomputable abbrev civil_Clock_a0 : An := civil_Clock_an.right.right.right
abbrev civil_Clock_t0 := Int × Int
def civil_Clock_m0 (z : civil_Clock_t0) : St := ⟨(.v ⟨(.int .i64), z.1⟩ :: .junk :: .v ⟨(.int .i64), z.2⟩ :: jk 13 []), []⟩
def civil_Clock_p0 (_n : Nat) (z : civil_Clock_t0) : civil_Clock_R :=
  some (z.2, ((w64 (z.1 - (w64 (z.2 * 86400)))), ()))
def civil_Clock_s0 (n : Nat) (z : civil_Clock_t0) : civil_Clock_R := civil_Clock_p0 n z
theorem civil_Clock_e0 (n : Nat) (rc : RC civil_Clock_R) (z : civil_Clock_t0) : codeR rc Tryz.prog civil_Clock_sp n civil_Clock_c0 civil_Clock_a0 (civil_Clock_m0 z) (kFin Tryz.prog civil_Clock_rs Tryz.f35) = civil_Clock_p0 n z := by kernel_rfl
theorem civil_Clock_q0 (n : Nat) (z : civil_Clock_t0) : codeK Tryz.prog civil_Clock_sp n civil_Clock_c0 civil_Clock_a0 (civil_Clock_m0 z) (kFin Tryz.prog civil_Clock_rs Tryz.f35) = civil_Clock_s0 n z := by
  rw [codeK_R, civil_Clock_e0]
  rfl
def civil_Clock_px (_n : Nat) (k0 : civil_Clock_t0 → civil_Clock_R) (x : (Int × Unit)) : civil_Clock_R :=
  let t1 := w64 (Int.tdiv x.1 (86400 : Int))
  bif (decide ((Int.tmod x.1 (86400 : Int)) < 0)) then
    k0 (x.1, (w64 (t1 - 1)))
  else
    k0 (x.1, t1)
def civil_Clock (n : Nat) (x : (Int × Unit)) : civil_Clock_R := civil_Clock_px n (civil_Clock_s0 n) x
theorem civil_Clock_ex (n : Nat) (rc : RC civil_Clock_R) (x : (Int × Unit)) : codeR rc Tryz.prog civil_Clock_sp n (bodyOf Tryz.f35) civil_Clock_an (start civil_Clock_ps x (Func.ntmps Tryz.f35)) (kFin Tryz.prog civil_Clock_rs Tryz.f35) = civil_Clock_px n (fun y => rc civil_Clock_c0 civil_Clock_a0 (civil_Clock_m0 y) (kFin Tryz.prog civil_Clock_rs Tryz.f35)) x := by kernel_rfl
theorem civil_Clock_qx (n : Nat) (x : (Int × Unit)) : codeK Tryz.prog civil_Clock_sp n (bodyOf Tryz.f35) civil_Clock_an (start civil_Clock_ps x (Func.ntmps Tryz.f35)) (kFin Tryz.prog civil_Clock_rs Tryz.f35) = civil_Clock n x := by
  have h0 : (fun y => codeK Tryz.prog civil_Clock_sp n civil_Clock_c0 civil_Clock_a0 (civil_Clock_m0 y) (kFin Tryz.prog civil_Clock_rs Tryz.f35)) = (civil_Clock_s0 n) := funext fun y => by
    have := civil_Clock_q0 n  y
    exact this
  rw [codeK_R, civil_Clock_ex]
  rw [h0]
  rfl
def civil_Clock_spec : Sp := ⟨civil_Clock_ps, civil_Clock_rs, civil_Clock⟩
theorem civil_Clock_ok : SoundX Tryz.prog CX 35 (.f civil_Clock_spec) := sound_of look_nil Tryz.func35 (by kernel_rfl) rfl civil_Clock_an civil_Clock_spec rfl rfl civil_Clock_qx

/-! ### noonmark/civil.Date -/
abbrev civil_Date_ps : Ty := (.pair (.int .i64) .unit)
abbrev civil_Date_rs : Ty := (.pair (.int .i64) T_api_Day)
def civil_Date_sp : Specs := look [(49, .f civil_number_spec)]
def civil_Date_an : An := (.s .o (.s .o (.s .o (.s .o (.s .o (.s .o (.s .o (.s .o (.s .o (.s .o (.k [] [2,3,4] 0 .o .o)))))))))))
abbrev civil_Date_R := Option (Int × D_api_Day)
noncomputable abbrev civil_Date_c0 : Code := (cr (cr (cr (cr (cr (cr (cr (cr (cr (cr (cr (bodyOf Tryz.f36))))))))))))
noncomputable abbrev civil_Date_a0 : An := civil_Date_an.right.right.right.right.right.right.right.right.right.right.right
abbrev civil_Date_t0 := Int × Int × Int
def civil_Date_m0 (z : civil_Date_t0) : St := ⟨(.junk :: .junk :: .v ⟨(.int .i64), z.1⟩ :: .v ⟨(.int .i64), z.2.1⟩ :: .v ⟨(.int .i64), z.2.2⟩ :: jk 71 []), []⟩
def civil_Date_p0 (_n : Nat) (z : civil_Date_t0) : civil_Date_R :=
  some (z.1, (z.2.1, (z.2.2, ((0 : Int), ()))))
def civil_Date_s0 (n : Nat) (z : civil_Date_t0) : civil_Date_R := civil_Date_p0 n z
theorem civil_Date_e0 (n : Nat) (rc : RC civil_Date_R) (z : civil_Date_t0) : codeR rc Tryz.prog civil_Date_sp n civil_Date_c0 civil_Date_a0 (civil_Date_m0 z) (kFin Tryz.prog civil_Date_rs Tryz.f36) = civil_Date_p0 n z := by kernel_rfl
theorem civil_Date_q0 (n : Nat) (z : civil_Date_t0) : codeK Tryz.prog civil_Date_sp n civil_Date_c0 civil_Date_a0 (civil_Date_m0 z) (kFin Tryz.prog civil_Date_rs Tryz.f36) = civil_Date_s0 n z := by
  rw [codeK_R, civil_Date_e0]
  rfl
def civil_Date_px (n : Nat) (k0 : civil_Date_t0 → civil_Date_R) (x : (Int × Unit)) : civil_Date_R :=
  ((civil_number n ((-9999 : Int), ((1 : Int), ((1 : Int), ()))))).bind fun v1 =>
  bif (decide (x.1 < v1.1)) then
    some ((0 : Int), ((0 : Int), ((0 : Int), ((2 : Int), ()))))
  else
    ((civil_number n ((9999 : Int), ((12 : Int), ((31 : Int), ()))))).bind fun v2 =>
    bif (decide (x.1 > v2.1)) then
      some ((0 : Int), ((0 : Int), ((0 : Int), ((2 : Int), ()))))
    else
      let t3 := w64 (x.1 + 5102378)
      let t4 := w64 (Int.tdiv t3 (146097 : Int))
      let t6 := w64 (t3 - (w64 (t4 * 146097)))
      let t13 := w64 (Int.tdiv (w64 ((w64 ((w64 (t6 - (w64 (Int.tdiv t6 (1460 : Int))))) + (w64 (Int.tdiv t6 (36524 : Int))))) - (w64 (Int.tdiv t6 (146096 : Int))))) (365 : Int))
      let t19 := w64 (t6 - (w64 ((w64 ((w64 (365 * t13)) + (w64 (Int.tdiv t13 (4 : Int))))) - (w64 (Int.tdiv t13 (100 : Int))))))
      let t22 := w64 (Int.tdiv (w64 ((w64 (5 * t19)) + 2)) (153 : Int))
      let t27 := w64 ((w64 (t19 - (w64 (Int.tdiv (w64 ((w64 (153 * t22)) + 2)) (5 : Int))))) + 1)
      let t30 := w64 ((w64 (t13 + (w64 (t4 * 400)))) - 12000)
      let t31 := w64 (t22 + 3)
      bif (decide (t31 > 12)) then
        k0 ((w64 (t30 + 1)), (w64 (t31 - 12)), t27)
      else
        k0 (t30, t31, t27)
def civil_Date (n : Nat) (x : (Int × Unit)) : civil_Date_R := civil_Date_px n (civil_Date_s0 n) x
theorem civil_Date_ex (n : Nat) (rc : RC civil_Date_R) (x : (Int × Unit)) : codeR rc Tryz.prog civil_Date_sp n (bodyOf Tryz.f36) civil_Date_an (start civil_Date_ps x (Func.ntmps Tryz.f36)) (kFin Tryz.prog civil_Date_rs Tryz.f36) = civil_Date_px n (fun y => rc civil_Date_c0 civil_Date_a0 (civil_Date_m0 y) (kFin Tryz.prog civil_Date_rs Tryz.f36)) x := by kernel_rfl
theorem civil_Date_qx (n : Nat) (x : (Int × Unit)) : codeK Tryz.prog civil_Date_sp n (bodyOf Tryz.f36) civil_Date_an (start civil_Date_ps x (Func.ntmps Tryz.f36)) (kFin Tryz.prog civil_Date_rs Tryz.f36) = civil_Date n x := by
  have h0 : (fun y => codeK Tryz.prog civil_Date_sp n civil_Date_c0 civil_Date_a0 (civil_Date_m0 y) (kFin Tryz.prog civil_Date_rs Tryz.f36)) = (civil_Date_s0 n) := funext fun y => by
    have := civil_Date_q0 n  y
    exact this
  rw [codeK_R, civil_Date_ex]
  rw [h0]
  rfl
def civil_Date_spec : Sp := ⟨civil_Date_ps, civil_Date_rs, civil_Date⟩
theorem civil_Date_ok : SoundX Tryz.prog CX 36 (.f civil_Date_spec) := sound_of (look_cons civil_number_ok look_nil) Tryz.func36 (by kernel_rfl) rfl civil_Date_an civil_Date_spec rfl rfl civil_Date_qx

/-! ### noonmark/footer.year -/
abbrev footer_year_ps : Ty := (.pair (.int .i64) .unit)
abbrev footer_year_rs : Ty := (.pair (.int .i64) (.pair .bool .unit))
def footer_year_sp : Specs := look [(30, .f footer_within_spec), (35, .f civil_Clock_spec), (36, .f civil_Date_spec)]
def footer_year_an : An := .o
abbrev footer_year_R := Option (Int × (Bool × Unit))

def footer_year_px (n : Nat) (x : (Int × Unit)) : footer_year_R :=
  ((civil_Clock n (x.1, ()))).bind fun v1 =>
  ((civil_Date n (v1.1, ()))).bind fun v2 =>
  bif (v2.2.2.2.1 == 0) then
    ((footer_within n (v2.1, ((-9998 : Int), ((9998 : Int), ()))))).bind fun v3 =>
    some (v2.1, (v3.1, ()))
  else
    some (v2.1, (false, ()))
def footer_year (n : Nat) (x : (Int × Unit)) : footer_year_R := footer_year_px n x
theorem footer_year_ex (n : Nat) (rc : RC footer_year_R) (x : (Int × Unit)) : codeR rc Tryz.prog footer_year_sp n (bodyOf Tryz.f22) footer_year_an (start footer_year_ps x (Func.ntmps Tryz.f22)) (kFin Tryz.prog footer_year_rs Tryz.f22) = footer_year_px n x := by kernel_rfl
theorem footer_year_qx (n : Nat) (x : (Int × Unit)) : codeK Tryz.prog footer_year_sp n (bodyOf Tryz.f22) footer_year_an (start footer_year_ps x (Func.ntmps Tryz.f22)) (kFin Tryz.prog footer_year_rs Tryz.f22) = footer_year n x := by
  rw [codeK_R, footer_year_ex]
  rfl
def footer_year_spec : Sp := ⟨footer_year_ps, footer_year_rs, footer_year⟩
theorem footer_year_ok : SoundX Tryz.prog CX 22 (.f footer_year_spec) := sound_of (look_cons footer_within_ok (look_cons civil_Clock_ok (look_cons civil_Date_ok look_nil))) Tryz.func22 (by kernel_rfl) rfl footer_year_an footer_year_spec rfl rfl footer_year_qx

/-! ### noonmark/civil.Week -/
abbrev civil_Week_ps : Ty := (.pair (.int .i64) .unit)
abbrev civil_Week_rs : Ty := (.pair (.int .i64) .unit)
def civil_Week_sp : Specs := look []
def civil_Week_an : An := (.s .o (.s .o (.k [] [3] 0 .o .o)))
abbrev civil_Week_R := Option (Int × Unit)
noncomputable abbrev civil_Week_c0 : Code := (cr (cr (cr (bodyOf Tryz.f37))))
noncomputable abbrev civil_Week_a0 : An := civil_Week_an.right.right.right
abbrev civil_Week_t0 := Int
def civil_Week_m0 (z : civil_Week_t0) : St := ⟨(jk 3 (.v ⟨(.int .i64), z⟩ :: jk 9 [])), []⟩
def civil_Week_p0 (_n : Nat) (z : civil_Week_t0) : civil_Week_R :=
  some (z, ())
def civil_Week_s0 (n : Nat) (z : civil_Week_t0) : civil_Week_R := civil_Week_p0 n z
theorem civil_Week_e0 (n : Nat) (rc : RC civil_Week_R) (z : civil_Week_t0) : codeR rc Tryz.prog civil_Week_sp n civil_Week_c0 civil_Week_a0 (civil_Week_m0 z) (kFin Tryz.prog civil_Week_rs Tryz.f37) = civil_Week_p0 n z := by kernel_rfl
theorem civil_Week_q0 (n : Nat) (z : civil_Week_t0) : codeK Tryz.prog civil_Week_sp n civil_Week_c0 civil_Week_a0 (civil_Week_m0 z) (kFin Tryz.prog civil_Week_rs Tryz.f37) = civil_Week_s0 n z := by
  rw [codeK_R, civil_Week_e0]
  rfl
def civil_Week_px (_n : Nat) (k0 : civil_Week_t0 → civil_Week_R) (x : (Int × Unit)) : civil_Week_R :=
  let t3 := Int.tmod (w64 ((Int.tmod x.1 (7 : Int)) + 4)) (7 : Int)
  bif (decide (t3 < 0)) then
    k0 (w64 (t3 + 7))
  else
    k0 t3
def civil_Week (n : Nat) (x : (Int × Unit)) : civil_Week_R := civil_Week_px n (civil_Week_s0 n) x
theorem civil_Week_ex (n : Nat) (rc : RC civil_Week_R) (x : (Int × Unit)) : codeR rc Tryz.prog civil_Week_sp n (bodyOf Tryz.f37) civil_Week_an (start civil_Week_ps x (Func.ntmps Tryz.f37)) (kFin Tryz.prog civil_Week_rs Tryz.f37) = civil_Week_px n (fun y => rc civil_Week_c0 civil_Week_a0 (civil_Week_m0 y) (kFin Tryz.prog civil_Week_rs Tryz.f37)) x := by kernel_rfl
theorem civil_Week_qx (n : Nat) (x : (Int × Unit)) : codeK Tryz.prog civil_Week_sp n (bodyOf Tryz.f37) civil_Week_an (start civil_Week_ps x (Func.ntmps Tryz.f37)) (kFin Tryz.prog civil_Week_rs Tryz.f37) = civil_Week n x := by
  have h0 : (fun y => codeK Tryz.prog civil_Week_sp n civil_Week_c0 civil_Week_a0 (civil_Week_m0 y) (kFin Tryz.prog civil_Week_rs Tryz.f37)) = (civil_Week_s0 n) := funext fun y => by
    have := civil_Week_q0 n  y
    exact this
  rw [codeK_R, civil_Week_ex]
  rw [h0]
  rfl
def civil_Week_spec : Sp := ⟨civil_Week_ps, civil_Week_rs, civil_Week⟩
theorem civil_Week_ok : SoundX Tryz.prog CX 37 (.f civil_Week_spec) := sound_of look_nil Tryz.func37 (by kernel_rfl) rfl civil_Week_an civil_Week_spec rfl rfl civil_Week_qx

/-! ### (noonmark/footer.Edge).in -/
abbrev footer_Edge_in_ps : Ty := (.pair T_noonmarkref17_Edge (.pair (.int .i64) .unit))
abbrev footer_Edge_in_rs : Ty := (.pair (.int .i64) .unit)
def footer_Edge_in_sp : Specs := look [(28, .f civil_Days_spec), (37, .f civil_Week_spec), (38, .f civil_Long_spec), (9, .f civil_Leap_spec)]
def footer_Edge_in_an : An := (.s .o (.k [] [1,2] 1 (.s .o (.c (.s .o (.s .o (.k [] [2,5] 1 .o .o))) .o)) (.s .o (.s .o (.k [] [2,7,9] 1 .o .o)))))
abbrev footer_Edge_in_R := Option (Int × Unit)
noncomputable abbrev footer_Edge_in_c0 : Code := (cr (cr (cr (cr (cr (bodyOf Tryz.f23))))))
noncomputable abbrev footer_Edge_in_c1 : Code := (cr (cr (bodyOf Tryz.f23)))
noncomputable abbrev footer_Edge_in_c2 : Code := (cr (cr (cr (cl (cr (cl (cr (bodyOf Tryz.f23))))))))
noncomputable abbrev footer_Edge_in_a0 : An := footer_Edge_in_an.right.right.right.right.right
noncomputable abbrev footer_Edge_in_a1 : An := footer_Edge_in_an.right.right
noncomputable abbrev footer_Edge_in_a2 : An := footer_Edge_in_an.right.left.right.left.right.right.right
noncomputable abbrev footer_Edge_in_K0 (k0 : St → footer_Edge_in_R) : Ex → St → footer_Edge_in_R := (kSeq k0 footer_Edge_in_an.right (kFin Tryz.prog footer_Edge_in_rs Tryz.f23))
abbrev footer_Edge_in_t0 := Int × D_noonmarkref17_Edge
def footer_Edge_in_m0 (z : footer_Edge_in_t0) : St := ⟨(.junk :: .v ⟨(.int .i64), z.1⟩ :: .v ⟨(.ptr 0 0 T_noonmarkref17_Edge), ()⟩ :: jk 67 []), [some (.one ⟨T_noonmarkref17_Edge, z.2⟩)]⟩
abbrev footer_Edge_in_t1 := Int × D_noonmarkref17_Edge
def footer_Edge_in_m1 (z : footer_Edge_in_t1) : St := ⟨(.junk :: .junk :: .v ⟨(.ptr 0 0 T_noonmarkref17_Edge), ()⟩ :: .junk :: .junk :: .v ⟨(.int .i64), z.1⟩ :: jk 64 []), [some (.one ⟨T_noonmarkref17_Edge, z.2⟩)]⟩
abbrev footer_Edge_in_t2 := Int × Int × D_noonmarkref17_Edge
def footer_Edge_in_m2 (z : footer_Edge_in_t2) : St := ⟨(.junk :: .junk :: .v ⟨(.ptr 0 0 T_noonmarkref17_Edge), ()⟩ :: jk 4 (.v ⟨(.int .i64), z.1⟩ :: .junk :: .v ⟨(.int .i64), z.2.1⟩ :: jk 60 [])), [some (.one ⟨T_noonmarkref17_Edge, z.2.2⟩)]⟩
def footer_Edge_in_p2 (_n : Nat) (z : footer_Edge_in_t2) : footer_Edge_in_R :=
  some ((w64 ((w64 ((w64 (z.1 + z.2.1)) * 86400)) + z.2.2.2.2.2.2.1)), ())
def footer_Edge_in_s2 (n : Nat) (z : footer_Edge_in_t2) : footer_Edge_in_R := footer_Edge_in_p2 n z
theorem footer_Edge_in_e2 (n : Nat) (rc : RC footer_Edge_in_R) (z : footer_Edge_in_t2) : codeR rc Tryz.prog footer_Edge_in_sp n footer_Edge_in_c0 footer_Edge_in_a0 (footer_Edge_in_m2 z) (kFin Tryz.prog footer_Edge_in_rs Tryz.f23) = footer_Edge_in_p2 n z := by kernel_rfl
theorem footer_Edge_in_q2 (n : Nat) (z : footer_Edge_in_t2) : codeK Tryz.prog footer_Edge_in_sp n footer_Edge_in_c0 footer_Edge_in_a0 (footer_Edge_in_m2 z) (kFin Tryz.prog footer_Edge_in_rs Tryz.f23) = footer_Edge_in_s2 n z := by
  rw [codeK_R, footer_Edge_in_e2]
  rfl
def footer_Edge_in_p0 (n : Nat) (k2 : footer_Edge_in_t2 → footer_Edge_in_R) (z : footer_Edge_in_t0) : footer_Edge_in_R :=
  ((civil_Days n (z.1, (z.2.2.2.1, ((1 : Int), ()))))).bind fun v6 =>
  ((civil_Week n (v6.1, ()))).bind fun v7 =>
  let t13 := w64 ((Int.tmod (w64 ((w64 (z.2.2.1 - v7.1)) + 7)) (7 : Int)) + (w64 (7 * (w64 (z.2.2.2.2.1 - 1)))))
  ((civil_Long n (z.1, (z.2.2.2.1, ())))).bind fun v14 =>
  bif (decide (t13 ≥ v14.1)) then
    k2 (v6.1, (w64 (t13 - 7)), z.2)
  else
    k2 (v6.1, t13, z.2)
def footer_Edge_in_s0 (n : Nat) (z : footer_Edge_in_t0) : footer_Edge_in_R := footer_Edge_in_p0 n (footer_Edge_in_s2 n) z
theorem footer_Edge_in_e0 (n : Nat) (rc : RC footer_Edge_in_R) (z : footer_Edge_in_t0) : codeR rc Tryz.prog footer_Edge_in_sp n footer_Edge_in_c1 footer_Edge_in_a1 (footer_Edge_in_m0 z) (kFin Tryz.prog footer_Edge_in_rs Tryz.f23) = footer_Edge_in_p0 n (fun y => rc footer_Edge_in_c0 footer_Edge_in_a0 (footer_Edge_in_m2 y) (kFin Tryz.prog footer_Edge_in_rs Tryz.f23)) z := by kernel_rfl
theorem footer_Edge_in_q0 (n : Nat) (z : footer_Edge_in_t0) : codeK Tryz.prog footer_Edge_in_sp n footer_Edge_in_c1 footer_Edge_in_a1 (footer_Edge_in_m0 z) (kFin Tryz.prog footer_Edge_in_rs Tryz.f23) = footer_Edge_in_s0 n z := by
  have h2 : (fun y => codeK Tryz.prog footer_Edge_in_sp n footer_Edge_in_c0 footer_Edge_in_a0 (footer_Edge_in_m2 y) (kFin Tryz.prog footer_Edge_in_rs Tryz.f23)) = (footer_Edge_in_s2 n) := funext fun y => by
    have := footer_Edge_in_q2 n  y
    exact this
  rw [codeK_R, footer_Edge_in_e0]
  rw [h2]
  rfl
def footer_Edge_in_p1 (_n : Nat) (_k0 : footer_Edge_in_t0 → footer_Edge_in_R) (z : footer_Edge_in_t1) : footer_Edge_in_R :=
  some ((w64 ((w64 (z.1 * 86400)) + z.2.2.2.2.2.1)), ())
def footer_Edge_in_s1 (n : Nat) (k0 : footer_Edge_in_t0 → footer_Edge_in_R) (z : footer_Edge_in_t1) : footer_Edge_in_R := footer_Edge_in_p1 n k0 z
theorem footer_Edge_in_e1 (n : Nat) (k0 : St → footer_Edge_in_R) (rc : RC footer_Edge_in_R) (z : footer_Edge_in_t1) : codeR rc Tryz.prog footer_Edge_in_sp n footer_Edge_in_c2 footer_Edge_in_a2 (footer_Edge_in_m1 z) (footer_Edge_in_K0 k0) = footer_Edge_in_p1 n (fun y => k0 (footer_Edge_in_m0 y)) z := by kernel_rfl
theorem footer_Edge_in_q1 (n : Nat) (k0 : St → footer_Edge_in_R) (z : footer_Edge_in_t1) : codeK Tryz.prog footer_Edge_in_sp n footer_Edge_in_c2 footer_Edge_in_a2 (footer_Edge_in_m1 z) (footer_Edge_in_K0 k0) = footer_Edge_in_s1 n (fun y => k0 (footer_Edge_in_m0 y)) z := by
  rw [codeK_R, footer_Edge_in_e1]
  rfl
def footer_Edge_in_px (n : Nat) (k0 : footer_Edge_in_t0 → footer_Edge_in_R) (k1 : footer_Edge_in_t1 → footer_Edge_in_R) (x : (D_noonmarkref17_Edge × (Int × Unit))) : footer_Edge_in_R :=
  bif x.1.1 then
    ((civil_Days n (x.2.1, ((1 : Int), ((1 : Int), ()))))).bind fun v1 =>
    let t3 := w64 (v1.1 + (w64 (x.1.2.1 - 1)))
    ((civil_Leap n (x.2.1, ()))).bind fun v4 =>
    bif v4.1 then
      bif (decide (x.1.2.1 > 59)) then
        k1 ((w64 (t3 + 1)), x.1)
      else
        k1 (t3, x.1)
    else
      k1 (t3, x.1)
  else
    k0 (x.2.1, x.1)
def footer_Edge_in (n : Nat) (x : (D_noonmarkref17_Edge × (Int × Unit))) : footer_Edge_in_R := footer_Edge_in_px n (footer_Edge_in_s0 n) (footer_Edge_in_s1 n (footer_Edge_in_s0 n)) x
theorem footer_Edge_in_ex (n : Nat) (rc : RC footer_Edge_in_R) (x : (D_noonmarkref17_Edge × (Int × Unit))) : codeR rc Tryz.prog footer_Edge_in_sp n (bodyOf Tryz.f23) footer_Edge_in_an (start footer_Edge_in_ps x (Func.ntmps Tryz.f23)) (kFin Tryz.prog footer_Edge_in_rs Tryz.f23) = footer_Edge_in_px n (fun y => rc footer_Edge_in_c1 footer_Edge_in_a1 (footer_Edge_in_m0 y) (kFin Tryz.prog footer_Edge_in_rs Tryz.f23)) (fun y => rc footer_Edge_in_c2 footer_Edge_in_a2 (footer_Edge_in_m1 y) (footer_Edge_in_K0 (fun st => rc footer_Edge_in_c1 footer_Edge_in_a1 st (kFin Tryz.prog footer_Edge_in_rs Tryz.f23)))) x := by kernel_rfl
theorem footer_Edge_in_qx (n : Nat) (x : (D_noonmarkref17_Edge × (Int × Unit))) : codeK Tryz.prog footer_Edge_in_sp n (bodyOf Tryz.f23) footer_Edge_in_an (start footer_Edge_in_ps x (Func.ntmps Tryz.f23)) (kFin Tryz.prog footer_Edge_in_rs Tryz.f23) = footer_Edge_in n x := by
  have h0 : (fun y => codeK Tryz.prog footer_Edge_in_sp n footer_Edge_in_c1 footer_Edge_in_a1 (footer_Edge_in_m0 y) (kFin Tryz.prog footer_Edge_in_rs Tryz.f23)) = (footer_Edge_in_s0 n) := funext fun y => by
    have := footer_Edge_in_q0 n  y
    exact this
  have h1 : (fun y => codeK Tryz.prog footer_Edge_in_sp n footer_Edge_in_c2 footer_Edge_in_a2 (footer_Edge_in_m1 y) (footer_Edge_in_K0 (fun st => codeK Tryz.prog footer_Edge_in_sp n footer_Edge_in_c1 footer_Edge_in_a1 st (kFin Tryz.prog footer_Edge_in_rs Tryz.f23)))) = (footer_Edge_in_s1 n (footer_Edge_in_s0 n)) := funext fun y => by
    have := footer_Edge_in_q1 n (fun st => codeK Tryz.prog footer_Edge_in_sp n footer_Edge_in_c1 footer_Edge_in_a1 st (kFin Tryz.prog footer_Edge_in_rs Tryz.f23)) y
    rw [h0] at this; exact this
  rw [codeK_R, footer_Edge_in_ex]
  rw [h0]
  rw [h1]
  rfl
def footer_Edge_in_spec : Sp := ⟨footer_Edge_in_ps, footer_Edge_in_rs, footer_Edge_in⟩
theorem footer_Edge_in_ok : SoundX Tryz.prog CX 23 (.f footer_Edge_in_spec) := sound_of (look_cons civil_Days_ok (look_cons civil_Week_ok (look_cons civil_Long_ok (look_cons civil_Leap_ok look_nil)))) Tryz.func23 (by kernel_rfl) rfl footer_Edge_in_an footer_Edge_in_spec rfl rfl footer_Edge_in_qx

/-! ### noonmark/footer.At -/
abbrev footer_At_ps : Ty := (.pair T_noonmarkref17_Spec (.pair (.int .i64) .unit))
abbrev footer_At_rs : Ty := (.pair T_api_Local (.pair (.int .i64) .unit))
def footer_At_sp : Specs := look [(17, .f footer_Right_spec), (22, .f footer_year_spec), (23, .f footer_Edge_in_spec)]
def footer_At_an : An := (.s .o (.s .o (.s .o (.s .o (.s .o (.s .o (.s .o (.s .o (.s .o (.k [] [4,10] 5 (.k [] [1,2,4,8,9,10,11,12,13,59,60] 5 .o (.b (.l [] [1,2,4,8,9,10,11,12,13,59,60] 5 (.s .o (.s .o (.k [(11, (.opt (.int .i64)), 0)] [1,2,4,8,9,10,11,12,13,59,60] 5 (.b (.s .o (.k [(11, (.opt (.int .i64)), 0)] [1,2,4,8,9,10,11,12,13,15,59,60] 5 (.s .o (.k [] [1,2,4,8,9,10,11,12,13,15,16,59,60,82] 6 .o .o)) (.s .o (.k [] [1,2,4,8,9,10,11,12,13,17,59,60,103] 6 .o .o))))) .o)))))) .o))))))))))
abbrev footer_At_R := Option (D_api_Local × (Int × Unit))
noncomputable abbrev footer_At_c0 : Code := (cr (cr (cr (cr (cr (cr (cr (cr (cr (cr (bodyOf Tryz.f10)))))))))))
noncomputable abbrev footer_At_c1 : Code := (cr (cr (cr (cl (cl (cr (cl (cr (cr (cr (cr (cr (cr (cr (cr (cr (bodyOf Tryz.f10)))))))))))))))))
noncomputable abbrev footer_At_c2 : Code := (cr (cr (cr (cr (cl (cl (cr (cr (cl (cl (cr (cl (cr (cr (cr (cr (cr (cr (cr (cr (cr (bodyOf Tryz.f10))))))))))))))))))))))
noncomputable abbrev footer_At_c3 : Code := (cr (cr (cl (cl (cr (cr (cl (cl (cr (cl (cr (cr (cr (cr (cr (cr (cr (cr (cr (bodyOf Tryz.f10))))))))))))))))))))
noncomputable abbrev footer_At_c4 : Code := (cr (cr (cl (cr (cl (cl (cr (cr (cl (cl (cr (cl (cr (cr (cr (cr (cr (cr (cr (cr (cr (bodyOf Tryz.f10))))))))))))))))))))))
noncomputable abbrev footer_At_c5 : Code := (cl (cl (cr (cl (cr (cr (cr (cr (cr (cr (cr (cr (cr (bodyOf Tryz.f10))))))))))))))
noncomputable abbrev footer_At_c6 : Code := (cr (cl (cr (cr (cr (cr (cr (cr (cr (cr (cr (bodyOf Tryz.f10))))))))))))
noncomputable abbrev footer_At_a0 : An := footer_At_an.right.right.right.right.right.right.right.right.right.right
noncomputable abbrev footer_At_a1 : An := footer_At_an.right.right.right.right.right.right.right.right.right.left.right.left.left.right.right.right
noncomputable abbrev footer_At_a2 : An := footer_At_an.right.right.right.right.right.right.right.right.right
noncomputable abbrev footer_At_a3 : An := footer_At_an.right.right.right.right.right.right.right.right.right.left.right.left
noncomputable abbrev footer_At_a4 : An := footer_At_an.right.right.right.right.right.right.right.right.right.left.right.left.left.right.right.left.left.right.right.right.right
noncomputable abbrev footer_At_a5 : An := footer_At_an.right.right.right.right.right.right.right.right.right.left.right.left.left.right.right
noncomputable abbrev footer_At_a6 : An := footer_At_an.right.right.right.right.right.right.right.right.right.left.right.left.left.right.right.left.left.right.right
noncomputable abbrev footer_At_a7 : An := footer_At_an.right.right.right.right.right.right.right.right.right.left.right.left.left.right.right.left.left.right.left.right.right
noncomputable abbrev footer_At_a8 : An := footer_At_an.right.right.right.right.right.right.right.right.right.left.right.left.left.right.right.left.left.right
noncomputable abbrev footer_At_a9 : An := footer_At_an.right.right.right.right.right.right.right.right.right.left.right.left.left
noncomputable abbrev footer_At_a10 : An := footer_At_an.right.right.right.right.right.right.right.right.right.left.right
noncomputable abbrev footer_At_K0 (r2 k0 : St → footer_At_R) : Ex → St → footer_At_R := (kSeq r2 footer_At_a3 (kBlk 0 (kSeq k0 footer_At_a2 (kFin Tryz.prog footer_At_rs Tryz.f10))))
noncomputable abbrev footer_At_K1 (k3 r2 k0 : St → footer_At_R) : Ex → St → footer_At_R := (kBlk 1 (kSeq k3 footer_At_a5 (kSeq r2 footer_At_a3 (kBlk 0 (kSeq k0 footer_At_a2 (kFin Tryz.prog footer_At_rs Tryz.f10))))))
noncomputable abbrev footer_At_K2 (k3 r2 k0 : St → footer_At_R) : Ex → St → footer_At_R := (kBlk 1 (kSeq k3 footer_At_a5 (kSeq r2 footer_At_a3 (kBlk 0 (kSeq k0 footer_At_a2 (kFin Tryz.prog footer_At_rs Tryz.f10))))))
noncomputable abbrev footer_At_K3 (k4 k3 r2 k0 : St → footer_At_R) : Ex → St → footer_At_R := (kSeq k4 footer_At_a8 (kBlk 1 (kSeq k3 footer_At_a5 (kSeq r2 footer_At_a3 (kBlk 0 (kSeq k0 footer_At_a2 (kFin Tryz.prog footer_At_rs Tryz.f10)))))))
noncomputable abbrev footer_At_K4 (r2 k0 : St → footer_At_R) : Ex → St → footer_At_R := (kSeq r2 footer_At_a3 (kBlk 0 (kSeq k0 footer_At_a2 (kFin Tryz.prog footer_At_rs Tryz.f10))))
noncomputable abbrev footer_At_K5 (k0 : St → footer_At_R) : Ex → St → footer_At_R := (kSeq k0 footer_At_a2 (kFin Tryz.prog footer_At_rs Tryz.f10))
abbrev footer_At_t0 := D_noonmarkref17_Spec × D_api_Local × D_api_Local × D_api_Local × D_api_Local
def footer_At_m0 (z : footer_At_t0) : St := ⟨(jk 4 (.v ⟨(.ptr 1 0 T_api_Local), ()⟩ :: jk 5 (.v ⟨(.ptr 4 0 T_api_Local), ()⟩ :: jk 96 []))), [some (.one ⟨T_noonmarkref17_Spec, z.1⟩), some (.one ⟨T_api_Local, z.2.1⟩), some (.one ⟨T_api_Local, z.2.2.1⟩), some (.one ⟨T_api_Local, z.2.2.2.1⟩), some (.one ⟨T_api_Local, z.2.2.2.2⟩)]⟩
abbrev footer_At_t1 := Int × (Option Int) × (D_noonmarkref17_Edge × Unit) × (D_noonmarkref17_Edge × Unit) × (Int × D_api_Day) × Int × D_noonmarkref17_Spec × D_api_Local × D_api_Local × D_api_Local × D_api_Local
def footer_At_m1 (z : footer_At_t1) : St := ⟨(.junk :: .v ⟨(.int .i64), z.1⟩ :: .v ⟨(.ptr 0 0 T_noonmarkref17_Spec), ()⟩ :: .junk :: .v ⟨(.ptr 1 0 T_api_Local), ()⟩ :: jk 3 (.v ⟨(.ptr 2 0 T_api_Local), ()⟩ :: .v ⟨(.ptr 3 0 T_api_Local), ()⟩ :: .v ⟨(.ptr 4 0 T_api_Local), ()⟩ :: .v ⟨(.opt (.int .i64)), z.2.1⟩ :: .v ⟨(.fn 23 1 (.pair T_noonmarkref17_Edge .unit)), z.2.2.1⟩ :: .v ⟨(.fn 23 1 (.pair T_noonmarkref17_Edge .unit)), z.2.2.2.1⟩ :: jk 45 (.v ⟨(.pair (.int .i64) T_api_Day), z.2.2.2.2.1⟩ :: .v ⟨(.int .i64), z.2.2.2.2.2.1⟩ :: jk 46 []))), [some (.one ⟨T_noonmarkref17_Spec, z.2.2.2.2.2.2.1⟩), some (.one ⟨T_api_Local, z.2.2.2.2.2.2.2.1⟩), some (.one ⟨T_api_Local, z.2.2.2.2.2.2.2.2.1⟩), some (.one ⟨T_api_Local, z.2.2.2.2.2.2.2.2.2.1⟩), some (.one ⟨T_api_Local, z.2.2.2.2.2.2.2.2.2.2⟩)]⟩
abbrev footer_At_t2 := Int × (Option Int) × (D_noonmarkref17_Edge × Unit) × (D_noonmarkref17_Edge × Unit) × (Int × D_api_Day) × Int × D_noonmarkref17_Spec × D_api_Local × D_api_Local × D_api_Local × D_api_Local
def footer_At_m2 (z : footer_At_t2) : St := ⟨(.junk :: .v ⟨(.int .i64), z.1⟩ :: .v ⟨(.ptr 0 0 T_noonmarkref17_Spec), ()⟩ :: .junk :: .v ⟨(.ptr 1 0 T_api_Local), ()⟩ :: jk 3 (.v ⟨(.ptr 2 0 T_api_Local), ()⟩ :: .v ⟨(.ptr 3 0 T_api_Local), ()⟩ :: .v ⟨(.ptr 4 0 T_api_Local), ()⟩ :: .v ⟨(.opt (.int .i64)), z.2.1⟩ :: .v ⟨(.fn 23 1 (.pair T_noonmarkref17_Edge .unit)), z.2.2.1⟩ :: .v ⟨(.fn 23 1 (.pair T_noonmarkref17_Edge .unit)), z.2.2.2.1⟩ :: jk 45 (.v ⟨(.pair (.int .i64) T_api_Day), z.2.2.2.2.1⟩ :: .v ⟨(.int .i64), z.2.2.2.2.2.1⟩ :: jk 46 []))), [some (.one ⟨T_noonmarkref17_Spec, z.2.2.2.2.2.2.1⟩), some (.one ⟨T_api_Local, z.2.2.2.2.2.2.2.1⟩), some (.one ⟨T_api_Local, z.2.2.2.2.2.2.2.2.1⟩), some (.one ⟨T_api_Local, z.2.2.2.2.2.2.2.2.2.1⟩), some (.one ⟨T_api_Local, z.2.2.2.2.2.2.2.2.2.2⟩)]⟩
abbrev footer_At_t3 := Int × (Option Int) × (D_noonmarkref17_Edge × Unit) × (D_noonmarkref17_Edge × Unit) × (Int × D_api_Day) × Int × D_noonmarkref17_Spec × D_api_Local × D_api_Local × D_api_Local × D_api_Local
def footer_At_m3 (z : footer_At_t3) : St := ⟨(.junk :: .v ⟨(.int .i64), z.1⟩ :: .v ⟨(.ptr 0 0 T_noonmarkref17_Spec), ()⟩ :: .junk :: .v ⟨(.ptr 1 0 T_api_Local), ()⟩ :: jk 3 (.v ⟨(.ptr 2 0 T_api_Local), ()⟩ :: .v ⟨(.ptr 3 0 T_api_Local), ()⟩ :: .v ⟨(.ptr 4 0 T_api_Local), ()⟩ :: .v ⟨(.opt (.int .i64)), z.2.1⟩ :: .v ⟨(.fn 23 1 (.pair T_noonmarkref17_Edge .unit)), z.2.2.1⟩ :: .v ⟨(.fn 23 1 (.pair T_noonmarkref17_Edge .unit)), z.2.2.2.1⟩ :: jk 45 (.v ⟨(.pair (.int .i64) T_api_Day), z.2.2.2.2.1⟩ :: .v ⟨(.int .i64), z.2.2.2.2.2.1⟩ :: jk 46 []))), [some (.one ⟨T_noonmarkref17_Spec, z.2.2.2.2.2.2.1⟩), some (.one ⟨T_api_Local, z.2.2.2.2.2.2.2.1⟩), some (.one ⟨T_api_Local, z.2.2.2.2.2.2.2.2.1⟩), some (.one ⟨T_api_Local, z.2.2.2.2.2.2.2.2.2.1⟩), some (.one ⟨T_api_Local, z.2.2.2.2.2.2.2.2.2.2⟩)]⟩
abbrev footer_At_t4 := Int × (Option Int) × (D_noonmarkref17_Edge × Unit) × (D_noonmarkref17_Edge × Unit) × Int × (Int × D_api_Day) × Int × D_noonmarkref17_Spec × D_api_Local × D_api_Local × D_api_Local × D_api_Local
def footer_At_m4 (z : footer_At_t4) : St := ⟨(.junk :: .v ⟨(.int .i64), z.1⟩ :: .v ⟨(.ptr 0 0 T_noonmarkref17_Spec), ()⟩ :: .junk :: .v ⟨(.ptr 1 0 T_api_Local), ()⟩ :: jk 3 (.v ⟨(.ptr 2 0 T_api_Local), ()⟩ :: .v ⟨(.ptr 3 0 T_api_Local), ()⟩ :: .v ⟨(.ptr 4 0 T_api_Local), ()⟩ :: .v ⟨(.opt (.int .i64)), z.2.1⟩ :: .v ⟨(.fn 23 1 (.pair T_noonmarkref17_Edge .unit)), z.2.2.1⟩ :: .v ⟨(.fn 23 1 (.pair T_noonmarkref17_Edge .unit)), z.2.2.2.1⟩ :: .junk :: .v ⟨(.int .i64), z.2.2.2.2.1⟩ :: jk 43 (.v ⟨(.pair (.int .i64) T_api_Day), z.2.2.2.2.2.1⟩ :: .v ⟨(.int .i64), z.2.2.2.2.2.2.1⟩ :: jk 46 []))), [some (.one ⟨T_noonmarkref17_Spec, z.2.2.2.2.2.2.2.1⟩), some (.one ⟨T_api_Local, z.2.2.2.2.2.2.2.2.1⟩), some (.one ⟨T_api_Local, z.2.2.2.2.2.2.2.2.2.1⟩), some (.one ⟨T_api_Local, z.2.2.2.2.2.2.2.2.2.2.1⟩), some (.one ⟨T_api_Local, z.2.2.2.2.2.2.2.2.2.2.2⟩)]⟩
abbrev footer_At_t5 := Int × (Option Int) × (D_noonmarkref17_Edge × Unit) × (D_noonmarkref17_Edge × Unit) × Int × (Int × D_api_Day) × Int × Bool × D_noonmarkref17_Spec × D_api_Local × D_api_Local × D_api_Local × D_api_Local × Int
def footer_At_m5 (z : footer_At_t5) : St := ⟨(.junk :: .v ⟨(.int .i64), z.1⟩ :: .v ⟨(.ptr 0 0 T_noonmarkref17_Spec), ()⟩ :: .junk :: .v ⟨(.ptr 1 0 T_api_Local), ()⟩ :: jk 3 (.v ⟨(.ptr 2 0 T_api_Local), ()⟩ :: .v ⟨(.ptr 3 0 T_api_Local), ()⟩ :: .v ⟨(.ptr 4 0 T_api_Local), ()⟩ :: .v ⟨(.opt (.int .i64)), z.2.1⟩ :: .v ⟨(.fn 23 1 (.pair T_noonmarkref17_Edge .unit)), z.2.2.1⟩ :: .v ⟨(.fn 23 1 (.pair T_noonmarkref17_Edge .unit)), z.2.2.2.1⟩ :: .junk :: .v ⟨(.int .i64), z.2.2.2.2.1⟩ :: .v ⟨(.ptr 5 0 (.int .i64)), ()⟩ :: jk 42 (.v ⟨(.pair (.int .i64) T_api_Day), z.2.2.2.2.2.1⟩ :: .v ⟨(.int .i64), z.2.2.2.2.2.2.1⟩ :: jk 21 (.v ⟨.bool, z.2.2.2.2.2.2.2.1⟩ :: jk 24 [])))), [some (.one ⟨T_noonmarkref17_Spec, z.2.2.2.2.2.2.2.2.1⟩), some (.one ⟨T_api_Local, z.2.2.2.2.2.2.2.2.2.1⟩), some (.one ⟨T_api_Local, z.2.2.2.2.2.2.2.2.2.2.1⟩), some (.one ⟨T_api_Local, z.2.2.2.2.2.2.2.2.2.2.2.1⟩), some (.one ⟨T_api_Local, z.2.2.2.2.2.2.2.2.2.2.2.2.1⟩), some (.one ⟨(.int .i64), z.2.2.2.2.2.2.2.2.2.2.2.2.2⟩)]⟩
abbrev footer_At_t6 := Int × (Option Int) × (D_noonmarkref17_Edge × Unit) × (D_noonmarkref17_Edge × Unit) × (Int × D_api_Day) × Int × Bool × D_noonmarkref17_Spec × D_api_Local × D_api_Local × D_api_Local × D_api_Local × Int
def footer_At_m6 (z : footer_At_t6) : St := ⟨(.junk :: .v ⟨(.int .i64), z.1⟩ :: .v ⟨(.ptr 0 0 T_noonmarkref17_Spec), ()⟩ :: .junk :: .v ⟨(.ptr 1 0 T_api_Local), ()⟩ :: jk 3 (.v ⟨(.ptr 2 0 T_api_Local), ()⟩ :: .v ⟨(.ptr 3 0 T_api_Local), ()⟩ :: .v ⟨(.ptr 4 0 T_api_Local), ()⟩ :: .v ⟨(.opt (.int .i64)), z.2.1⟩ :: .v ⟨(.fn 23 1 (.pair T_noonmarkref17_Edge .unit)), z.2.2.1⟩ :: .v ⟨(.fn 23 1 (.pair T_noonmarkref17_Edge .unit)), z.2.2.2.1⟩ :: jk 3 (.v ⟨(.ptr 5 0 (.int .i64)), ()⟩ :: jk 41 (.v ⟨(.pair (.int .i64) T_api_Day), z.2.2.2.2.1⟩ :: .v ⟨(.int .i64), z.2.2.2.2.2.1⟩ :: jk 42 (.v ⟨.bool, z.2.2.2.2.2.2.1⟩ :: jk 3 []))))), [some (.one ⟨T_noonmarkref17_Spec, z.2.2.2.2.2.2.2.1⟩), some (.one ⟨T_api_Local, z.2.2.2.2.2.2.2.2.1⟩), some (.one ⟨T_api_Local, z.2.2.2.2.2.2.2.2.2.1⟩), some (.one ⟨T_api_Local, z.2.2.2.2.2.2.2.2.2.2.1⟩), some (.one ⟨T_api_Local, z.2.2.2.2.2.2.2.2.2.2.2.1⟩), some (.one ⟨(.int .i64), z.2.2.2.2.2.2.2.2.2.2.2.2⟩)]⟩
def footer_At_p0 (_n : Nat) (z : footer_At_t0) : footer_At_R :=
  some (z.2.2.2.2, ((0 : Int), ()))
def footer_At_s0 (n : Nat) (z : footer_At_t0) : footer_At_R := footer_At_p0 n z
theorem footer_At_e0 (n : Nat) (rc : RC footer_At_R) (z : footer_At_t0) : codeR rc Tryz.prog footer_At_sp n footer_At_c0 footer_At_a0 (footer_At_m0 z) (kFin Tryz.prog footer_At_rs Tryz.f10) = footer_At_p0 n z := by kernel_rfl
theorem footer_At_q0 (n : Nat) (z : footer_At_t0) : codeK Tryz.prog footer_At_sp n footer_At_c0 footer_At_a0 (footer_At_m0 z) (kFin Tryz.prog footer_At_rs Tryz.f10) = footer_At_s0 n z := by
  rw [codeK_R, footer_At_e0]
  rfl
def footer_At_p3 (_n : Nat) (_k0 : footer_At_t0 → footer_At_R) (r2 : footer_At_t2 → footer_At_R) (z : footer_At_t3) : footer_At_R :=
  r2 (z.1, z.2.1, z.2.2.1, z.2.2.2.1, z.2.2.2.2.1, (w64 (z.2.2.2.2.2.1 + 1)), z.2.2.2.2.2.2.1, z.2.2.2.2.2.2.2.1, z.2.2.2.2.2.2.2.2.1, z.2.2.2.2.2.2.2.2.2.1, z.2.2.2.2.2.2.2.2.2.2)
def footer_At_s3 (n : Nat) (k0 : footer_At_t0 → footer_At_R) (r2 : footer_At_t2 → footer_At_R) (z : footer_At_t3) : footer_At_R := footer_At_p3 n k0 r2 z
theorem footer_At_e3 (n : Nat) (k0 : St → footer_At_R) (r2 : St → footer_At_R) (rc : RC footer_At_R) (z : footer_At_t3) : codeR rc Tryz.prog footer_At_sp n footer_At_c1 footer_At_a1 (footer_At_m3 z) (footer_At_K0 r2 k0) = footer_At_p3 n (fun y => k0 (footer_At_m0 y)) (fun y => r2 (footer_At_m2 y)) z := by kernel_rfl
theorem footer_At_q3 (n : Nat) (k0 : St → footer_At_R) (r2 : St → footer_At_R) (z : footer_At_t3) : codeK Tryz.prog footer_At_sp n footer_At_c1 footer_At_a1 (footer_At_m3 z) (footer_At_K0 r2 k0) = footer_At_s3 n (fun y => k0 (footer_At_m0 y)) (fun y => r2 (footer_At_m2 y)) z := by
  rw [codeK_R, footer_At_e3]
  rfl
def footer_At_p6 (_n : Nat) (_k0 : footer_At_t0 → footer_At_R) (_r2 : footer_At_t2 → footer_At_R) (k3 : footer_At_t3 → footer_At_R) (z : footer_At_t6) : footer_At_R :=
  bif z.2.2.2.2.2.2.1 then
    k3 (z.1, (some z.2.2.2.2.2.2.2.2.2.2.2.2), z.2.2.1, z.2.2.2.1, z.2.2.2.2.1, z.2.2.2.2.2.1, z.2.2.2.2.2.2.2.1, z.2.2.2.2.2.2.2.2.1, z.2.2.2.2.2.2.2.2.2.1, z.2.2.2.2.2.2.2.2.2.2.1, z.2.2.2.2.2.2.2.2.2.1)
  else
    k3 (z.1, z.2.1, z.2.2.1, z.2.2.2.1, z.2.2.2.2.1, z.2.2.2.2.2.1, z.2.2.2.2.2.2.2.1, z.2.2.2.2.2.2.2.2.1, z.2.2.2.2.2.2.2.2.2.1, z.2.2.2.2.2.2.2.2.2.2.1, z.2.2.2.2.2.2.2.2.2.2.2.1)
def footer_At_s6 (n : Nat) (k0 : footer_At_t0 → footer_At_R) (r2 : footer_At_t2 → footer_At_R) (k3 : footer_At_t3 → footer_At_R) (z : footer_At_t6) : footer_At_R := footer_At_p6 n k0 r2 k3 z
theorem footer_At_e6 (n : Nat) (k0 : St → footer_At_R) (r2 : St → footer_At_R) (k3 : St → footer_At_R) (rc : RC footer_At_R) (z : footer_At_t6) : codeR rc Tryz.prog footer_At_sp n footer_At_c2 footer_At_a4 (footer_At_m6 z) (footer_At_K1 k3 r2 k0) = footer_At_p6 n (fun y => k0 (footer_At_m0 y)) (fun y => r2 (footer_At_m2 y)) (fun y => k3 (footer_At_m3 y)) z := by kernel_rfl
theorem footer_At_q6 (n : Nat) (k0 : St → footer_At_R) (r2 : St → footer_At_R) (k3 : St → footer_At_R) (z : footer_At_t6) : codeK Tryz.prog footer_At_sp n footer_At_c2 footer_At_a4 (footer_At_m6 z) (footer_At_K1 k3 r2 k0) = footer_At_s6 n (fun y => k0 (footer_At_m0 y)) (fun y => r2 (footer_At_m2 y)) (fun y => k3 (footer_At_m3 y)) z := by
  rw [codeK_R, footer_At_e6]
  rfl
def footer_At_p4 (n : Nat) (_k0 : footer_At_t0 → footer_At_R) (_r2 : footer_At_t2 → footer_At_R) (_k3 : footer_At_t3 → footer_At_R) (k6 : footer_At_t6 → footer_At_R) (z : footer_At_t4) : footer_At_R :=
  ((footer_Edge_in n (z.2.2.2.1.1, (z.2.2.2.2.1, ())))).bind fun v11 =>
  let t12 := w64 (v11.1 - z.2.2.2.2.2.2.2.1.2.2.2.1)
  bif (decide (t12 ≤ z.1)) then
    bif (Option.isNone z.2.1) then
      k6 (z.1, z.2.1, z.2.2.1, z.2.2.2.1, z.2.2.2.2.2.1, z.2.2.2.2.2.2.1, true, z.2.2.2.2.2.2.2.1, z.2.2.2.2.2.2.2.2.1, z.2.2.2.2.2.2.2.2.2.1, z.2.2.2.2.2.2.2.2.2.2.1, z.2.2.2.2.2.2.2.2.2.2.2, t12)
    else
      (z.2.1).bind fun q13 =>
      k6 (z.1, z.2.1, z.2.2.1, z.2.2.2.1, z.2.2.2.2.2.1, z.2.2.2.2.2.2.1, (decide (t12 ≥ q13)), z.2.2.2.2.2.2.2.1, z.2.2.2.2.2.2.2.2.1, z.2.2.2.2.2.2.2.2.2.1, z.2.2.2.2.2.2.2.2.2.2.1, z.2.2.2.2.2.2.2.2.2.2.2, t12)
  else
    k6 (z.1, z.2.1, z.2.2.1, z.2.2.2.1, z.2.2.2.2.2.1, z.2.2.2.2.2.2.1, false, z.2.2.2.2.2.2.2.1, z.2.2.2.2.2.2.2.2.1, z.2.2.2.2.2.2.2.2.2.1, z.2.2.2.2.2.2.2.2.2.2.1, z.2.2.2.2.2.2.2.2.2.2.2, t12)
def footer_At_s4 (n : Nat) (k0 : footer_At_t0 → footer_At_R) (r2 : footer_At_t2 → footer_At_R) (k3 : footer_At_t3 → footer_At_R) (z : footer_At_t4) : footer_At_R := footer_At_p4 n k0 r2 k3 (footer_At_s6 n k0 r2 k3) z
theorem footer_At_e4 (n : Nat) (k0 : St → footer_At_R) (r2 : St → footer_At_R) (k3 : St → footer_At_R) (rc : RC footer_At_R) (z : footer_At_t4) : codeR rc Tryz.prog footer_At_sp n footer_At_c3 footer_At_a6 (footer_At_m4 z) (footer_At_K2 k3 r2 k0) = footer_At_p4 n (fun y => k0 (footer_At_m0 y)) (fun y => r2 (footer_At_m2 y)) (fun y => k3 (footer_At_m3 y)) (fun y => rc footer_At_c2 footer_At_a4 (footer_At_m6 y) (footer_At_K1 k3 r2 k0)) z := by kernel_rfl
theorem footer_At_q4 (n : Nat) (k0 : St → footer_At_R) (r2 : St → footer_At_R) (k3 : St → footer_At_R) (z : footer_At_t4) : codeK Tryz.prog footer_At_sp n footer_At_c3 footer_At_a6 (footer_At_m4 z) (footer_At_K2 k3 r2 k0) = footer_At_s4 n (fun y => k0 (footer_At_m0 y)) (fun y => r2 (footer_At_m2 y)) (fun y => k3 (footer_At_m3 y)) z := by
  have h6 : (fun y => codeK Tryz.prog footer_At_sp n footer_At_c2 footer_At_a4 (footer_At_m6 y) (footer_At_K1 k3 r2 k0)) = (footer_At_s6 n (fun y => k0 (footer_At_m0 y)) (fun y => r2 (footer_At_m2 y)) (fun y => k3 (footer_At_m3 y))) := funext fun y => by
    have := footer_At_q6 n k0 r2 k3 y
    exact this
  rw [codeK_R, footer_At_e4]
  rw [h6]
  rfl
def footer_At_p5 (_n : Nat) (_k0 : footer_At_t0 → footer_At_R) (_r2 : footer_At_t2 → footer_At_R) (_k3 : footer_At_t3 → footer_At_R) (k4 : footer_At_t4 → footer_At_R) (z : footer_At_t5) : footer_At_R :=
  bif z.2.2.2.2.2.2.2.1 then
    k4 (z.1, (some z.2.2.2.2.2.2.2.2.2.2.2.2.2), z.2.2.1, z.2.2.2.1, z.2.2.2.2.1, z.2.2.2.2.2.1, z.2.2.2.2.2.2.1, z.2.2.2.2.2.2.2.2.1, z.2.2.2.2.2.2.2.2.2.1, z.2.2.2.2.2.2.2.2.2.2.1, z.2.2.2.2.2.2.2.2.2.2.2.1, z.2.2.2.2.2.2.2.2.2.2.2.1)
  else
    k4 (z.1, z.2.1, z.2.2.1, z.2.2.2.1, z.2.2.2.2.1, z.2.2.2.2.2.1, z.2.2.2.2.2.2.1, z.2.2.2.2.2.2.2.2.1, z.2.2.2.2.2.2.2.2.2.1, z.2.2.2.2.2.2.2.2.2.2.1, z.2.2.2.2.2.2.2.2.2.2.2.1, z.2.2.2.2.2.2.2.2.2.2.2.2.1)
def footer_At_s5 (n : Nat) (k0 : footer_At_t0 → footer_At_R) (r2 : footer_At_t2 → footer_At_R) (k3 : footer_At_t3 → footer_At_R) (k4 : footer_At_t4 → footer_At_R) (z : footer_At_t5) : footer_At_R := footer_At_p5 n k0 r2 k3 k4 z
theorem footer_At_e5 (n : Nat) (k0 : St → footer_At_R) (r2 : St → footer_At_R) (k3 : St → footer_At_R) (k4 : St → footer_At_R) (rc : RC footer_At_R) (z : footer_At_t5) : codeR rc Tryz.prog footer_At_sp n footer_At_c4 footer_At_a7 (footer_At_m5 z) (footer_At_K3 k4 k3 r2 k0) = footer_At_p5 n (fun y => k0 (footer_At_m0 y)) (fun y => r2 (footer_At_m2 y)) (fun y => k3 (footer_At_m3 y)) (fun y => k4 (footer_At_m4 y)) z := by kernel_rfl
theorem footer_At_q5 (n : Nat) (k0 : St → footer_At_R) (r2 : St → footer_At_R) (k3 : St → footer_At_R) (k4 : St → footer_At_R) (z : footer_At_t5) : codeK Tryz.prog footer_At_sp n footer_At_c4 footer_At_a7 (footer_At_m5 z) (footer_At_K3 k4 k3 r2 k0) = footer_At_s5 n (fun y => k0 (footer_At_m0 y)) (fun y => r2 (footer_At_m2 y)) (fun y => k3 (footer_At_m3 y)) (fun y => k4 (footer_At_m4 y)) z := by
  rw [codeK_R, footer_At_e5]
  rfl
def footer_At_p2 (n : Nat) (k0 : footer_At_t0 → footer_At_R) (_r2 : footer_At_t2 → footer_At_R) (k3 : footer_At_t3 → footer_At_R) (k4 : footer_At_t4 → footer_At_R) (k5 : footer_At_t5 → footer_At_R) (z : footer_At_t2) : footer_At_R :=
  bif (decide (z.2.2.2.2.2.1 < 4)) then
    bif decide (0 ≤ z.2.2.2.2.2.1) then
      (((chain 4 (.int .i64) z.2.2.2.2.1)[Int.toNat z.2.2.2.2.2.1]?)).bind fun c7 =>
      ((footer_Edge_in n (z.2.2.1.1, (c7, ())))).bind fun v8 =>
      let t9 := w64 (v8.1 - z.2.2.2.2.2.2.1.2.1)
      bif (decide (t9 ≤ z.1)) then
        bif (Option.isNone z.2.1) then
          k5 (z.1, z.2.1, z.2.2.1, z.2.2.2.1, c7, z.2.2.2.2.1, z.2.2.2.2.2.1, true, z.2.2.2.2.2.2.1, z.2.2.2.2.2.2.2.1, z.2.2.2.2.2.2.2.2.1, z.2.2.2.2.2.2.2.2.2.1, z.2.2.2.2.2.2.2.2.2.2, t9)
        else
          (z.2.1).bind fun q10 =>
          k5 (z.1, z.2.1, z.2.2.1, z.2.2.2.1, c7, z.2.2.2.2.1, z.2.2.2.2.2.1, (decide (t9 > q10)), z.2.2.2.2.2.2.1, z.2.2.2.2.2.2.2.1, z.2.2.2.2.2.2.2.2.1, z.2.2.2.2.2.2.2.2.2.1, z.2.2.2.2.2.2.2.2.2.2, t9)
      else
        k5 (z.1, z.2.1, z.2.2.1, z.2.2.2.1, c7, z.2.2.2.2.1, z.2.2.2.2.2.1, false, z.2.2.2.2.2.2.1, z.2.2.2.2.2.2.2.1, z.2.2.2.2.2.2.2.2.1, z.2.2.2.2.2.2.2.2.2.1, z.2.2.2.2.2.2.2.2.2.2, t9)
    else none
  else
    k0 (z.2.2.2.2.2.2.1, z.2.2.2.2.2.2.2.1, z.2.2.2.2.2.2.2.2.1, z.2.2.2.2.2.2.2.2.2.1, z.2.2.2.2.2.2.2.2.2.2)
def footer_At_s2 (n : Nat) (k0 : footer_At_t0 → footer_At_R) (r2 : footer_At_t2 → footer_At_R) (z : footer_At_t2) : footer_At_R := footer_At_p2 n k0 r2 (footer_At_s3 n k0 r2) (footer_At_s4 n k0 r2 (footer_At_s3 n k0 r2)) (footer_At_s5 n k0 r2 (footer_At_s3 n k0 r2) (footer_At_s4 n k0 r2 (footer_At_s3 n k0 r2))) z
theorem footer_At_e2 (n : Nat) (k0 : St → footer_At_R) (r2 : St → footer_At_R) (rc : RC footer_At_R) (z : footer_At_t2) : codeR rc Tryz.prog footer_At_sp n footer_At_c5 footer_At_a9 (footer_At_m2 z) (footer_At_K4 r2 k0) = footer_At_p2 n (fun y => k0 (footer_At_m0 y)) (fun y => r2 (footer_At_m2 y)) (fun y => rc footer_At_c1 footer_At_a1 (footer_At_m3 y) (footer_At_K0 r2 k0)) (fun y => rc footer_At_c3 footer_At_a6 (footer_At_m4 y) (footer_At_K2 (fun st => rc footer_At_c1 footer_At_a1 st (footer_At_K0 r2 k0)) r2 k0)) (fun y => rc footer_At_c4 footer_At_a7 (footer_At_m5 y) (footer_At_K3 (fun st => rc footer_At_c3 footer_At_a6 st (footer_At_K2 (fun st => rc footer_At_c1 footer_At_a1 st (footer_At_K0 r2 k0)) r2 k0)) (fun st => rc footer_At_c1 footer_At_a1 st (footer_At_K0 r2 k0)) r2 k0)) z := by kernel_rfl
theorem footer_At_q2 (n : Nat) (k0 : St → footer_At_R) (r2 : St → footer_At_R) (z : footer_At_t2) : codeK Tryz.prog footer_At_sp n footer_At_c5 footer_At_a9 (footer_At_m2 z) (footer_At_K4 r2 k0) = footer_At_s2 n (fun y => k0 (footer_At_m0 y)) (fun y => r2 (footer_At_m2 y)) z := by
  have h3 : (fun y => codeK Tryz.prog footer_At_sp n footer_At_c1 footer_At_a1 (footer_At_m3 y) (footer_At_K0 r2 k0)) = (footer_At_s3 n (fun y => k0 (footer_At_m0 y)) (fun y => r2 (footer_At_m2 y))) := funext fun y => by
    have := footer_At_q3 n k0 r2 y
    exact this
  have h4 : (fun y => codeK Tryz.prog footer_At_sp n footer_At_c3 footer_At_a6 (footer_At_m4 y) (footer_At_K2 (fun st => codeK Tryz.prog footer_At_sp n footer_At_c1 footer_At_a1 st (footer_At_K0 r2 k0)) r2 k0)) = (footer_At_s4 n (fun y => k0 (footer_At_m0 y)) (fun y => r2 (footer_At_m2 y)) (footer_At_s3 n (fun y => k0 (footer_At_m0 y)) (fun y => r2 (footer_At_m2 y)))) := funext fun y => by
    have := footer_At_q4 n k0 r2 (fun st => codeK Tryz.prog footer_At_sp n footer_At_c1 footer_At_a1 st (footer_At_K0 r2 k0)) y
    rw [h3] at this; exact this
  have h5 : (fun y => codeK Tryz.prog footer_At_sp n footer_At_c4 footer_At_a7 (footer_At_m5 y) (footer_At_K3 (fun st => codeK Tryz.prog footer_At_sp n footer_At_c3 footer_At_a6 st (footer_At_K2 (fun st => codeK Tryz.prog footer_At_sp n footer_At_c1 footer_At_a1 st (footer_At_K0 r2 k0)) r2 k0)) (fun st => codeK Tryz.prog footer_At_sp n footer_At_c1 footer_At_a1 st (footer_At_K0 r2 k0)) r2 k0)) = (footer_At_s5 n (fun y => k0 (footer_At_m0 y)) (fun y => r2 (footer_At_m2 y)) (footer_At_s3 n (fun y => k0 (footer_At_m0 y)) (fun y => r2 (footer_At_m2 y))) (footer_At_s4 n (fun y => k0 (footer_At_m0 y)) (fun y => r2 (footer_At_m2 y)) (footer_At_s3 n (fun y => k0 (footer_At_m0 y)) (fun y => r2 (footer_At_m2 y))))) := funext fun y => by
    have := footer_At_q5 n k0 r2 (fun st => codeK Tryz.prog footer_At_sp n footer_At_c1 footer_At_a1 st (footer_At_K0 r2 k0)) (fun st => codeK Tryz.prog footer_At_sp n footer_At_c3 footer_At_a6 st (footer_At_K2 (fun st => codeK Tryz.prog footer_At_sp n footer_At_c1 footer_At_a1 st (footer_At_K0 r2 k0)) r2 k0)) y
    rw [h3] at this; rw [h4] at this; exact this
  rw [codeK_R, footer_At_e2]
  rw [h3]
  rw [h4]
  rw [h5]
  rfl
def footer_At_s1 (n : Nat) (k0 : footer_At_t0 → footer_At_R) (z : footer_At_t1) : footer_At_R :=
  rounds (fun r2 x' => footer_At_s2 n k0 r2 x') n (z.1, z.2.1, z.2.2.1, z.2.2.2.1, z.2.2.2.2.1, z.2.2.2.2.2.1, z.2.2.2.2.2.2.1, z.2.2.2.2.2.2.2.1, z.2.2.2.2.2.2.2.2.1, z.2.2.2.2.2.2.2.2.2.1, z.2.2.2.2.2.2.2.2.2.2)
theorem footer_At_q1 (n : Nat) (k0 : St → footer_At_R) (z : footer_At_t1) : codeK Tryz.prog footer_At_sp n footer_At_c6 footer_At_a10 (footer_At_m1 z) (footer_At_K5 k0) = footer_At_s1 n (fun y => k0 (footer_At_m0 y)) z :=
  Eq.trans (b := rounds (fun r2 st => codeK Tryz.prog footer_At_sp n footer_At_c5 footer_At_a9 st (footer_At_K4 r2 k0)) n (footer_At_m2 (z.1, z.2.1, z.2.2.1, z.2.2.2.1, z.2.2.2.2.1, z.2.2.2.2.2.1, z.2.2.2.2.2.2.1, z.2.2.2.2.2.2.2.1, z.2.2.2.2.2.2.2.2.1, z.2.2.2.2.2.2.2.2.2.1, z.2.2.2.2.2.2.2.2.2.2))) (by kernel_rfl) (rounds_mk footer_At_m2 (fun r2 x' => by
    have := (footer_At_q2 n k0 r2 x')
    exact this) n _)
def footer_At_px (n : Nat) (k0 : footer_At_t0 → footer_At_R) (k1 : footer_At_t1 → footer_At_R) (x : (D_noonmarkref17_Spec × (Int × Unit))) : footer_At_R :=
  ((footer_Right n (x.1, ()))).bind fun v1 =>
  bif (!v1.1) then
    some (((0 : Int), (false, ((⟨#[]⟩ : ByteArray), ()))), ((1 : Int), ()))
  else
    ((footer_year n (x.2.1, ()))).bind fun v2 =>
    bif (!v2.2.1) then
      some (((0 : Int), (false, ((⟨#[]⟩ : ByteArray), ()))), ((2 : Int), ()))
    else
      bif (x.1.2.2.1.toList == (⟨#[]⟩ : ByteArray).toList) then
        some ((x.1.2.1, (false, (x.1.1, ()))), ((0 : Int), ()))
      else
        k1 (x.2.1, (none : Option Int), (x.1.2.2.2.2.1, ()), (x.1.2.2.2.2.2.1, ()), ((imax (w64 (v2.1 - 2)) (-9999 : Int)), ((w64 (v2.1 - 1)), (v2.1, ((w64 (v2.1 + 1)), ())))), (0 : Int), x.1, ((0 : Int), (false, ((⟨#[]⟩ : ByteArray), ()))), (x.1.2.1, (false, (x.1.1, ()))), (x.1.2.2.2.1, (true, (x.1.2.2.1, ()))), (x.1.2.1, (false, (x.1.1, ()))))
def footer_At (n : Nat) (x : (D_noonmarkref17_Spec × (Int × Unit))) : footer_At_R := footer_At_px n (footer_At_s0 n) (footer_At_s1 n (footer_At_s0 n)) x
theorem footer_At_ex (n : Nat) (rc : RC footer_At_R) (x : (D_noonmarkref17_Spec × (Int × Unit))) : codeR rc Tryz.prog footer_At_sp n (bodyOf Tryz.f10) footer_At_an (start footer_At_ps x (Func.ntmps Tryz.f10)) (kFin Tryz.prog footer_At_rs Tryz.f10) = footer_At_px n (fun y => rc footer_At_c0 footer_At_a0 (footer_At_m0 y) (kFin Tryz.prog footer_At_rs Tryz.f10)) (fun y => rc footer_At_c6 footer_At_a10 (footer_At_m1 y) (footer_At_K5 (fun st => rc footer_At_c0 footer_At_a0 st (kFin Tryz.prog footer_At_rs Tryz.f10)))) x := by kernel_rfl
theorem footer_At_qx (n : Nat) (x : (D_noonmarkref17_Spec × (Int × Unit))) : codeK Tryz.prog footer_At_sp n (bodyOf Tryz.f10) footer_At_an (start footer_At_ps x (Func.ntmps Tryz.f10)) (kFin Tryz.prog footer_At_rs Tryz.f10) = footer_At n x := by
  have h0 : (fun y => codeK Tryz.prog footer_At_sp n footer_At_c0 footer_At_a0 (footer_At_m0 y) (kFin Tryz.prog footer_At_rs Tryz.f10)) = (footer_At_s0 n) := funext fun y => by
    have := footer_At_q0 n  y
    exact this
  have h1 : (fun y => codeK Tryz.prog footer_At_sp n footer_At_c6 footer_At_a10 (footer_At_m1 y) (footer_At_K5 (fun st => codeK Tryz.prog footer_At_sp n footer_At_c0 footer_At_a0 st (kFin Tryz.prog footer_At_rs Tryz.f10)))) = (footer_At_s1 n (footer_At_s0 n)) := funext fun y => by
    have := footer_At_q1 n (fun st => codeK Tryz.prog footer_At_sp n footer_At_c0 footer_At_a0 st (kFin Tryz.prog footer_At_rs Tryz.f10)) y
    rw [h0] at this; exact this
  rw [codeK_R, footer_At_ex]
  rw [h0]
  rw [h1]
  rfl
def footer_At_spec : Sp := ⟨footer_At_ps, footer_At_rs, footer_At⟩
theorem footer_At_ok : SoundX Tryz.prog CX 10 (.f footer_At_spec) := sound_of (look_cons footer_Right_ok (look_cons footer_year_ok (look_cons footer_Edge_in_ok look_nil))) Tryz.func10 (by kernel_rfl) rfl footer_At_an footer_At_spec rfl rfl footer_At_qx

/-! ### (noonmark/posix.spec).told -/
abbrev posix_spec_told_ps : Ty := (.pair T_posix_spec (.pair (.int .i64) .unit))
abbrev posix_spec_told_rs : Ty := (.pair T_api_Local .unit)
def posix_spec_told_sp : Specs := look [(10, .f footer_At_spec)]
def posix_spec_told_an : An := .o
abbrev posix_spec_told_R := Option (D_api_Local × Unit)

def posix_spec_told_px (n : Nat) (x : (D_posix_spec × (Int × Unit))) : posix_spec_told_R :=
  ((footer_At n (x.1.1, (x.2.1, ())))).bind fun v1 =>
  some (v1.1, ())
def posix_spec_told (n : Nat) (x : (D_posix_spec × (Int × Unit))) : posix_spec_told_R := posix_spec_told_px n x
theorem posix_spec_told_ex (n : Nat) (rc : RC posix_spec_told_R) (x : (D_posix_spec × (Int × Unit))) : codeR rc Tryz.prog posix_spec_told_sp n (bodyOf Tryz.f15) posix_spec_told_an (start posix_spec_told_ps x (Func.ntmps Tryz.f15)) (kFin Tryz.prog posix_spec_told_rs Tryz.f15) = posix_spec_told_px n x := by kernel_rfl
theorem posix_spec_told_qx (n : Nat) (x : (D_posix_spec × (Int × Unit))) : codeK Tryz.prog posix_spec_told_sp n (bodyOf Tryz.f15) posix_spec_told_an (start posix_spec_told_ps x (Func.ntmps Tryz.f15)) (kFin Tryz.prog posix_spec_told_rs Tryz.f15) = posix_spec_told n x := by
  rw [codeK_R, posix_spec_told_ex]
  rfl
def posix_spec_told_spec : Sp := ⟨posix_spec_told_ps, posix_spec_told_rs, posix_spec_told⟩
theorem posix_spec_told_ok : SoundX Tryz.prog CX 15 (.f posix_spec_told_spec) := sound_of (look_cons footer_At_ok look_nil) Tryz.func15 (by kernel_rfl) rfl posix_spec_told_an posix_spec_told_spec rfl rfl posix_spec_told_qx

/-! ### noonmark/posix.on -/
abbrev posix_on_ps : Ty := (.pair T_noonmarkref17_Edge .unit)
abbrev posix_on_rs : Ty := (.pair (.int .i64) (.pair T_api_Day .unit))
def posix_on_sp : Specs := look [(28, .f civil_Days_spec), (36, .f civil_Date_spec)]
def posix_on_an : An := .o
abbrev posix_on_R := Option (Int × (D_api_Day × Unit))

def posix_on_px (n : Nat) (x : (D_noonmarkref17_Edge × Unit)) : posix_on_R :=
  bif x.1.1 then
    ((civil_Days n ((2001 : Int), ((1 : Int), ((1 : Int), ()))))).bind fun v1 =>
    ((civil_Date n ((w64 ((w64 (v1.1 + x.1.2.1)) - 1)), ()))).bind fun v4 =>
    some (v4.2.1, (((0 : Int), (v4.2.2.1, ((0 : Int), ()))), ()))
  else
    bif (x.1.2.2.2.1 == 5) then
      some (x.1.2.2.1, (((1 : Int), ((0 : Int), (x.1.2.1, ()))), ()))
    else
      some (x.1.2.2.1, (((2 : Int), ((w64 ((w64 (7 * x.1.2.2.2.1)) - 6)), (x.1.2.1, ()))), ()))
def posix_on (n : Nat) (x : (D_noonmarkref17_Edge × Unit)) : posix_on_R := posix_on_px n x
theorem posix_on_ex (n : Nat) (rc : RC posix_on_R) (x : (D_noonmarkref17_Edge × Unit)) : codeR rc Tryz.prog posix_on_sp n (bodyOf Tryz.f47) posix_on_an (start posix_on_ps x (Func.ntmps Tryz.f47)) (kFin Tryz.prog posix_on_rs Tryz.f47) = posix_on_px n x := by kernel_rfl
theorem posix_on_qx (n : Nat) (x : (D_noonmarkref17_Edge × Unit)) : codeK Tryz.prog posix_on_sp n (bodyOf Tryz.f47) posix_on_an (start posix_on_ps x (Func.ntmps Tryz.f47)) (kFin Tryz.prog posix_on_rs Tryz.f47) = posix_on n x := by
  rw [codeK_R, posix_on_ex]
  rfl
def posix_on_spec : Sp := ⟨posix_on_ps, posix_on_rs, posix_on⟩
theorem posix_on_ok : SoundX Tryz.prog CX 47 (.f posix_on_spec) := sound_of (look_cons civil_Days_ok (look_cons civil_Date_ok look_nil)) Tryz.func47 (by kernel_rfl) rfl posix_on_an posix_on_spec rfl rfl posix_on_qx

/-! ### noonmark/posix.number -/
abbrev posix_number_ps : Ty := (.pair T_noonmarkref17_Edge (.pair (.int .i64) .unit))
abbrev posix_number_rs : Ty := (.pair (.int .i64) .unit)
def posix_number_sp : Specs := look [(28, .f civil_Days_spec), (37, .f civil_Week_spec), (38, .f civil_Long_spec), (47, .f posix_on_spec)]
def posix_number_an : An := (.s .o (.s .o (.s .o (.s .o (.k [] [1,2,9,11] 1 .o (.k [] [9,11] 0 (.b (.l [] [1,2,9,11] 1 .o)) .o))))))
abbrev posix_number_R := Option (Int × Unit)
noncomputable abbrev posix_number_c0 : Code := (cl (cl (cl (cr (cr (cr (cr (cr (bodyOf Tryz.f32)))))))))
noncomputable abbrev posix_number_c1 : Code := (cr (cr (cr (cr (cr (cr (bodyOf Tryz.f32)))))))
noncomputable abbrev posix_number_c2 : Code := (cr (cr (cr (cr (cr (bodyOf Tryz.f32))))))
noncomputable abbrev posix_number_a0 : An := posix_number_an.right.right.right.right.right.left.left.left
noncomputable abbrev posix_number_a1 : An := posix_number_an.right.right.right.right.right
noncomputable abbrev posix_number_a2 : An := posix_number_an.right.right.right.right.right.left.left
noncomputable abbrev posix_number_a3 : An := posix_number_an.right.right.right.right.right.right
noncomputable abbrev posix_number_K0 (r2 k1 : St → posix_number_R) : Ex → St → posix_number_R := (kSeq r2 posix_number_a2 (kBlk 0 (kSeq k1 posix_number_a1 (kFin Tryz.prog posix_number_rs Tryz.f32))))
abbrev posix_number_t0 := Int × Int × Int × D_noonmarkref17_Edge
def posix_number_m0 (z : posix_number_t0) : St := ⟨(.junk :: .v ⟨(.int .i64), z.1⟩ :: .v ⟨(.ptr 0 0 T_noonmarkref17_Edge), ()⟩ :: jk 6 (.v ⟨(.int .i64), z.2.1⟩ :: .junk :: .v ⟨(.int .i64), z.2.2.1⟩ :: jk 47 [])), [some (.one ⟨T_noonmarkref17_Edge, z.2.2.2⟩)]⟩
abbrev posix_number_t1 := Int × Int
def posix_number_m1 (z : posix_number_t1) : St := ⟨(jk 9 (.v ⟨(.int .i64), z.1⟩ :: .junk :: .v ⟨(.int .i64), z.2⟩ :: jk 47 [])), []⟩
abbrev posix_number_t2 := Int × Int × Int × D_noonmarkref17_Edge
def posix_number_m2 (z : posix_number_t2) : St := ⟨(.junk :: .v ⟨(.int .i64), z.1⟩ :: .v ⟨(.ptr 0 0 T_noonmarkref17_Edge), ()⟩ :: jk 6 (.v ⟨(.int .i64), z.2.1⟩ :: .junk :: .v ⟨(.int .i64), z.2.2.1⟩ :: jk 47 [])), [some (.one ⟨T_noonmarkref17_Edge, z.2.2.2⟩)]⟩
def posix_number_p2 (n : Nat) (k1 : posix_number_t1 → posix_number_R) (r2 : posix_number_t2 → posix_number_R) (z : posix_number_t2) : posix_number_R :=
  ((civil_Long n (z.1, (z.2.2.2.2.2.1, ())))).bind fun v11 =>
  bif (decide (z.2.2.1 ≥ v11.1)) then
    r2 (z.1, z.2.1, (w64 (z.2.2.1 - 7)), z.2.2.2)
  else
    k1 (z.2.1, z.2.2.1)
def posix_number_s2 (n : Nat) (k1 : posix_number_t1 → posix_number_R) (r2 : posix_number_t2 → posix_number_R) (z : posix_number_t2) : posix_number_R := posix_number_p2 n k1 r2 z
theorem posix_number_e2 (n : Nat) (k1 : St → posix_number_R) (r2 : St → posix_number_R) (rc : RC posix_number_R) (z : posix_number_t2) : codeR rc Tryz.prog posix_number_sp n posix_number_c0 posix_number_a0 (posix_number_m2 z) (posix_number_K0 r2 k1) = posix_number_p2 n (fun y => k1 (posix_number_m1 y)) (fun y => r2 (posix_number_m2 y)) z := by kernel_rfl
theorem posix_number_q2 (n : Nat) (k1 : St → posix_number_R) (r2 : St → posix_number_R) (z : posix_number_t2) : codeK Tryz.prog posix_number_sp n posix_number_c0 posix_number_a0 (posix_number_m2 z) (posix_number_K0 r2 k1) = posix_number_s2 n (fun y => k1 (posix_number_m1 y)) (fun y => r2 (posix_number_m2 y)) z := by
  rw [codeK_R, posix_number_e2]
  rfl
def posix_number_p1 (_n : Nat) (z : posix_number_t1) : posix_number_R :=
  some ((w64 (z.1 + z.2)), ())
def posix_number_s1 (n : Nat) (z : posix_number_t1) : posix_number_R := posix_number_p1 n z
theorem posix_number_e1 (n : Nat) (rc : RC posix_number_R) (z : posix_number_t1) : codeR rc Tryz.prog posix_number_sp n posix_number_c1 posix_number_a3 (posix_number_m1 z) (kFin Tryz.prog posix_number_rs Tryz.f32) = posix_number_p1 n z := by kernel_rfl
theorem posix_number_q1 (n : Nat) (z : posix_number_t1) : codeK Tryz.prog posix_number_sp n posix_number_c1 posix_number_a3 (posix_number_m1 z) (kFin Tryz.prog posix_number_rs Tryz.f32) = posix_number_s1 n z := by
  rw [codeK_R, posix_number_e1]
  rfl
def posix_number_s0 (n : Nat) (z : posix_number_t0) : posix_number_R :=
  rounds (fun r2 x' => posix_number_s2 n (posix_number_s1 n) r2 x') n (z.1, z.2.1, z.2.2.1, z.2.2.2)
theorem posix_number_q0 (n : Nat) (z : posix_number_t0) : codeK Tryz.prog posix_number_sp n posix_number_c2 posix_number_a1 (posix_number_m0 z) (kFin Tryz.prog posix_number_rs Tryz.f32) = posix_number_s0 n z :=
  Eq.trans (b := rounds (fun r2 st => codeK Tryz.prog posix_number_sp n posix_number_c0 posix_number_a0 st (posix_number_K0 r2 (fun st => codeK Tryz.prog posix_number_sp n posix_number_c1 posix_number_a3 st (kFin Tryz.prog posix_number_rs Tryz.f32)))) n (posix_number_m2 (z.1, z.2.1, z.2.2.1, z.2.2.2))) (by kernel_rfl) (rounds_mk posix_number_m2 (fun r2 x' => by
    have h1 : (fun y => codeK Tryz.prog posix_number_sp n posix_number_c1 posix_number_a3 (posix_number_m1 y) (kFin Tryz.prog posix_number_rs Tryz.f32)) = (posix_number_s1 n) := funext fun y => by
      have := posix_number_q1 n  y
      exact this
    have := (posix_number_q2 n (fun st => codeK Tryz.prog posix_number_sp n posix_number_c1 posix_number_a3 st (kFin Tryz.prog posix_number_rs Tryz.f32)) r2 x')
    rw [h1] at this
    exact this) n _)
def posix_number_px (n : Nat) (k0 : posix_number_t0 → posix_number_R) (x : (D_noonmarkref17_Edge × (Int × Unit))) : posix_number_R :=
  bif x.1.1 then
    ((posix_on n (x.1, ()))).bind fun v1 =>
    ((civil_Days n (x.2.1, (v1.1, (v1.2.1.2.1, ()))))).bind fun v2 =>
    some (v2.1, ())
  else
    ((civil_Days n (x.2.1, (x.1.2.2.1, ((1 : Int), ()))))).bind fun v3 =>
    ((civil_Week n (v3.1, ()))).bind fun v5 =>
    k0 (x.2.1, v3.1, (w64 ((Int.tmod (w64 ((w64 (7 + x.1.2.1)) - v5.1)) (7 : Int)) + (w64 (7 * (w64 (x.1.2.2.2.1 - 1)))))), x.1)
def posix_number (n : Nat) (x : (D_noonmarkref17_Edge × (Int × Unit))) : posix_number_R := posix_number_px n (posix_number_s0 n) x
theorem posix_number_ex (n : Nat) (rc : RC posix_number_R) (x : (D_noonmarkref17_Edge × (Int × Unit))) : codeR rc Tryz.prog posix_number_sp n (bodyOf Tryz.f32) posix_number_an (start posix_number_ps x (Func.ntmps Tryz.f32)) (kFin Tryz.prog posix_number_rs Tryz.f32) = posix_number_px n (fun y => rc posix_number_c2 posix_number_a1 (posix_number_m0 y) (kFin Tryz.prog posix_number_rs Tryz.f32)) x := by kernel_rfl
theorem posix_number_qx (n : Nat) (x : (D_noonmarkref17_Edge × (Int × Unit))) : codeK Tryz.prog posix_number_sp n (bodyOf Tryz.f32) posix_number_an (start posix_number_ps x (Func.ntmps Tryz.f32)) (kFin Tryz.prog posix_number_rs Tryz.f32) = posix_number n x := by
  have h0 : (fun y => codeK Tryz.prog posix_number_sp n posix_number_c2 posix_number_a1 (posix_number_m0 y) (kFin Tryz.prog posix_number_rs Tryz.f32)) = (posix_number_s0 n) := funext fun y => by
    have := posix_number_q0 n  y
    exact this
  rw [codeK_R, posix_number_ex]
  rw [h0]
  rfl
def posix_number_spec : Sp := ⟨posix_number_ps, posix_number_rs, posix_number⟩
theorem posix_number_ok : SoundX Tryz.prog CX 32 (.f posix_number_spec) := sound_of (look_cons civil_Days_ok (look_cons civil_Week_ok (look_cons civil_Long_ok (look_cons posix_on_ok look_nil)))) Tryz.func32 (by kernel_rfl) rfl posix_number_an posix_number_spec rfl rfl posix_number_qx

/-! ### (noonmark/posix.spec).start -/
abbrev posix_spec_start_ps : Ty := (.pair T_posix_spec (.pair (.int .i64) .unit))
abbrev posix_spec_start_rs : Ty := (.pair (.int .i64) .unit)
def posix_spec_start_sp : Specs := look [(32, .f posix_number_spec)]
def posix_spec_start_an : An := .o
abbrev posix_spec_start_R := Option (Int × Unit)

def posix_spec_start_px (n : Nat) (x : (D_posix_spec × (Int × Unit))) : posix_spec_start_R :=
  ((posix_number n (x.1.1.2.2.2.2.1, (x.2.1, ())))).bind fun v1 =>
  some ((w64 ((w64 ((w64 (v1.1 * 86400)) + x.1.1.2.2.2.2.1.2.2.2.2.1)) - x.1.1.2.1)), ())
def posix_spec_start (n : Nat) (x : (D_posix_spec × (Int × Unit))) : posix_spec_start_R := posix_spec_start_px n x
theorem posix_spec_start_ex (n : Nat) (rc : RC posix_spec_start_R) (x : (D_posix_spec × (Int × Unit))) : codeR rc Tryz.prog posix_spec_start_sp n (bodyOf Tryz.f18) posix_spec_start_an (start posix_spec_start_ps x (Func.ntmps Tryz.f18)) (kFin Tryz.prog posix_spec_start_rs Tryz.f18) = posix_spec_start_px n x := by kernel_rfl
theorem posix_spec_start_qx (n : Nat) (x : (D_posix_spec × (Int × Unit))) : codeK Tryz.prog posix_spec_start_sp n (bodyOf Tryz.f18) posix_spec_start_an (start posix_spec_start_ps x (Func.ntmps Tryz.f18)) (kFin Tryz.prog posix_spec_start_rs Tryz.f18) = posix_spec_start n x := by
  rw [codeK_R, posix_spec_start_ex]
  rfl
def posix_spec_start_spec : Sp := ⟨posix_spec_start_ps, posix_spec_start_rs, posix_spec_start⟩
theorem posix_spec_start_ok : SoundX Tryz.prog CX 18 (.f posix_spec_start_spec) := sound_of (look_cons posix_number_ok look_nil) Tryz.func18 (by kernel_rfl) rfl posix_spec_start_an posix_spec_start_spec rfl rfl posix_spec_start_qx

/-! ### (noonmark/posix.spec).end -/
abbrev posix_spec_end_ps : Ty := (.pair T_posix_spec (.pair (.int .i64) .unit))
abbrev posix_spec_end_rs : Ty := (.pair (.int .i64) .unit)
def posix_spec_end_sp : Specs := look [(32, .f posix_number_spec)]
def posix_spec_end_an : An := .o
abbrev posix_spec_end_R := Option (Int × Unit)

def posix_spec_end_px (n : Nat) (x : (D_posix_spec × (Int × Unit))) : posix_spec_end_R :=
  ((posix_number n (x.1.1.2.2.2.2.2.1, (x.2.1, ())))).bind fun v1 =>
  some ((w64 ((w64 ((w64 (v1.1 * 86400)) + x.1.1.2.2.2.2.2.1.2.2.2.2.1)) - x.1.1.2.2.2.1)), ())
def posix_spec_end (n : Nat) (x : (D_posix_spec × (Int × Unit))) : posix_spec_end_R := posix_spec_end_px n x
theorem posix_spec_end_ex (n : Nat) (rc : RC posix_spec_end_R) (x : (D_posix_spec × (Int × Unit))) : codeR rc Tryz.prog posix_spec_end_sp n (bodyOf Tryz.f19) posix_spec_end_an (start posix_spec_end_ps x (Func.ntmps Tryz.f19)) (kFin Tryz.prog posix_spec_end_rs Tryz.f19) = posix_spec_end_px n x := by kernel_rfl
theorem posix_spec_end_qx (n : Nat) (x : (D_posix_spec × (Int × Unit))) : codeK Tryz.prog posix_spec_end_sp n (bodyOf Tryz.f19) posix_spec_end_an (start posix_spec_end_ps x (Func.ntmps Tryz.f19)) (kFin Tryz.prog posix_spec_end_rs Tryz.f19) = posix_spec_end n x := by
  rw [codeK_R, posix_spec_end_ex]
  rfl
def posix_spec_end_spec : Sp := ⟨posix_spec_end_ps, posix_spec_end_rs, posix_spec_end⟩
theorem posix_spec_end_ok : SoundX Tryz.prog CX 19 (.f posix_spec_end_spec) := sound_of (look_cons posix_number_ok look_nil) Tryz.func19 (by kernel_rfl) rfl posix_spec_end_an posix_spec_end_spec rfl rfl posix_spec_end_qx

/-! ### noonmark/posix.Yearly -/
abbrev posix_Yearly_ps : Ty := (.pair T_noonmarkref17_Spec (.pair (.int .i64) .unit))
abbrev posix_Yearly_rs : Ty := (.pair (.list (.int .i64)) (.pair (.int .i64) .unit))
abbrev posix_Yearly_rr : Ty := (.pair (.int .i64) .unit)
def posix_Yearly_sp : Specs := look [(13, .f posix_spec_begin_spec), (15, .f posix_spec_told_spec), (17, .f footer_Right_spec), (18, .f posix_spec_start_spec), (19, .f posix_spec_end_spec), (20, .i sort64S), (21, .m comp64S)]
def posix_Yearly_an : An := (.s .o (.s .o (.s .o (.s .o (.k [] [1,4,6,7] 3 (.k [] [1,4,6,7,8] 2 .o (.b (.l [(7, (.sl 2 (.int .i64)), 2)] [1,4,6,7,8] 3 .o))) (.s .o (.s .o (.k [] [4] 3 (.k [] [4,6,9,10,57,58,59] 2 .o (.b (.l [(4, (.sl 2 (.int .i64)), 2)] [4,6,9,10,57,58,59] 3 (.s .o (.s .o (.k [] [4,6,9,10,57,58,59] 3 (.b (.s .o (.k [] [4,6,9,10,12,57,58,59,80] 3 .o .o))) .o)))))) .o))))))))
abbrev posix_Yearly_R := Option ((List Int) × (Int × Unit))
noncomputable abbrev posix_Yearly_c0 : Code := (cr (cr (cr (cr (cr (cr (cr (cr (bodyOf Tryz.f8)))))))))
noncomputable abbrev posix_Yearly_c1 : Code := (cr (cr (cr (cl (cl (cr (cl (cr (cr (cr (cr (cr (cr (cr (bodyOf Tryz.f8)))))))))))))))
noncomputable abbrev posix_Yearly_c2 : Code := (cr (cr (cl (cl (cr (cr (cl (cl (cr (cl (cr (cr (cr (cr (cr (cr (cr (bodyOf Tryz.f8))))))))))))))))))
noncomputable abbrev posix_Yearly_c3 : Code := (cl (cl (cr (cl (cr (cr (cr (cr (cr (cr (cr (bodyOf Tryz.f8))))))))))))
noncomputable abbrev posix_Yearly_c4 : Code := (cr (cl (cr (cr (cr (cr (cr (cr (cr (bodyOf Tryz.f8))))))))))
noncomputable abbrev posix_Yearly_c5 : Code := (cr (cr (cr (cr (cr (bodyOf Tryz.f8))))))
noncomputable abbrev posix_Yearly_c6 : Code := (cl (cl (cr (cl (cr (cr (cr (cr (bodyOf Tryz.f8)))))))))
noncomputable abbrev posix_Yearly_c7 : Code := (cr (cl (cr (cr (cr (cr (bodyOf Tryz.f8)))))))
noncomputable abbrev posix_Yearly_a0 : An := posix_Yearly_an.right.right.right.right.right.right.right.right
noncomputable abbrev posix_Yearly_a1 : An := posix_Yearly_an.right.right.right.right.right.right.right.left.right.left.left.right.right.right
noncomputable abbrev posix_Yearly_a2 : An := posix_Yearly_an.right.right.right.right.right.right.right
noncomputable abbrev posix_Yearly_a3 : An := posix_Yearly_an.right.right.right.right.right.right.right.left.right.left
noncomputable abbrev posix_Yearly_a4 : An := posix_Yearly_an.right.right.right.right.right.right.right.left.right.left.left.right.right.left.left.right.right
noncomputable abbrev posix_Yearly_a5 : An := posix_Yearly_an.right.right.right.right.right.right.right.left.right.left.left.right.right
noncomputable abbrev posix_Yearly_a6 : An := posix_Yearly_an.right.right.right.right.right.right.right.left.right.left.left
noncomputable abbrev posix_Yearly_a7 : An := posix_Yearly_an.right.right.right.right.right.right.right.left.right
noncomputable abbrev posix_Yearly_a8 : An := posix_Yearly_an.right.right.right.right.right
noncomputable abbrev posix_Yearly_a9 : An := posix_Yearly_an.right.right.right.right.left.right.left.left
noncomputable abbrev posix_Yearly_a10 : An := posix_Yearly_an.right.right.right.right
noncomputable abbrev posix_Yearly_a11 : An := posix_Yearly_an.right.right.right.right.left.right.left
noncomputable abbrev posix_Yearly_a12 : An := posix_Yearly_an.right.right.right.right.left.right
noncomputable abbrev posix_Yearly_K0 : Ex → St → posix_Yearly_R := (kFinO Tryz.prog 2 (.int .i64) posix_Yearly_rr Tryz.f8)
noncomputable abbrev posix_Yearly_K1 (r5 k3 : St → posix_Yearly_R) : Ex → St → posix_Yearly_R := (kSeq r5 posix_Yearly_a3 (kBlk 3 (kSeq k3 posix_Yearly_a2 (kFinO Tryz.prog 2 (.int .i64) posix_Yearly_rr Tryz.f8))))
noncomputable abbrev posix_Yearly_K2 (k6 r5 k3 : St → posix_Yearly_R) : Ex → St → posix_Yearly_R := (kBlk 4 (kSeq k6 posix_Yearly_a5 (kSeq r5 posix_Yearly_a3 (kBlk 3 (kSeq k3 posix_Yearly_a2 (kFinO Tryz.prog 2 (.int .i64) posix_Yearly_rr Tryz.f8))))))
noncomputable abbrev posix_Yearly_K3 (r5 k3 : St → posix_Yearly_R) : Ex → St → posix_Yearly_R := (kSeq r5 posix_Yearly_a3 (kBlk 3 (kSeq k3 posix_Yearly_a2 (kFinO Tryz.prog 2 (.int .i64) posix_Yearly_rr Tryz.f8))))
noncomputable abbrev posix_Yearly_K4 (k3 : St → posix_Yearly_R) : Ex → St → posix_Yearly_R := (kSeq k3 posix_Yearly_a2 (kFinO Tryz.prog 2 (.int .i64) posix_Yearly_rr Tryz.f8))
noncomputable abbrev posix_Yearly_K5 : Ex → St → posix_Yearly_R := (kFinO Tryz.prog 2 (.int .i64) posix_Yearly_rr Tryz.f8)
noncomputable abbrev posix_Yearly_K6 (r2 k0 : St → posix_Yearly_R) : Ex → St → posix_Yearly_R := (kSeq r2 posix_Yearly_a11 (kBlk 1 (kSeq k0 posix_Yearly_a10 (kFinO Tryz.prog 2 (.int .i64) posix_Yearly_rr Tryz.f8))))
noncomputable abbrev posix_Yearly_K7 (k0 : St → posix_Yearly_R) : Ex → St → posix_Yearly_R := (kSeq k0 posix_Yearly_a10 (kFinO Tryz.prog 2 (.int .i64) posix_Yearly_rr Tryz.f8))
noncomputable abbrev posix_Yearly_K8 : Ex → St → posix_Yearly_R := (kFinO Tryz.prog 2 (.int .i64) posix_Yearly_rr Tryz.f8)
abbrev posix_Yearly_t0 := Int × D_noonmarkref17_Spec × D_posix_spec × (List Int)
def posix_Yearly_m0 (z : posix_Yearly_t0) : St := ⟨(.junk :: .v ⟨(.int .i64), z.1⟩ :: .junk :: .junk :: .v ⟨(.nl (.int .i64)), ()⟩ :: .junk :: .v ⟨(.ptr 1 0 T_posix_spec), ()⟩ :: .v ⟨(.sl 2 (.int .i64)), ()⟩ :: jk 79 []), [some (.one ⟨T_noonmarkref17_Spec, z.2.1⟩), some (.one ⟨T_posix_spec, z.2.2.1⟩), some (.arr 2 (.int .i64) z.2.2.2)]⟩
abbrev posix_Yearly_t1 := Int × Int × D_noonmarkref17_Spec × D_posix_spec
def posix_Yearly_m1 (z : posix_Yearly_t1) : St := ⟨(.junk :: .v ⟨(.int .i64), z.1⟩ :: .junk :: .junk :: .v ⟨(.nl (.int .i64)), ()⟩ :: .junk :: .v ⟨(.ptr 1 0 T_posix_spec), ()⟩ :: .v ⟨(.nl (.int .i64)), ()⟩ :: .v ⟨(.int .i64), z.2.1⟩ :: jk 78 []), [some (.one ⟨T_noonmarkref17_Spec, z.2.2.1⟩), some (.one ⟨T_posix_spec, z.2.2.2⟩)]⟩
abbrev posix_Yearly_t2 := Int × Int × D_noonmarkref17_Spec × D_posix_spec × (List Int)
def posix_Yearly_m2 (z : posix_Yearly_t2) : St := ⟨(.junk :: .v ⟨(.int .i64), z.1⟩ :: .junk :: .junk :: .v ⟨(.nl (.int .i64)), ()⟩ :: .junk :: .v ⟨(.ptr 1 0 T_posix_spec), ()⟩ :: .v ⟨(.sl 2 (.int .i64)), ()⟩ :: .v ⟨(.int .i64), z.2.1⟩ :: jk 78 []), [some (.one ⟨T_noonmarkref17_Spec, z.2.2.1⟩), some (.one ⟨T_posix_spec, z.2.2.2.1⟩), some (.arr 2 (.int .i64) z.2.2.2.2)]⟩
abbrev posix_Yearly_t3 := D_noonmarkref17_Spec × D_posix_spec × (List Int)
def posix_Yearly_m3 (z : posix_Yearly_t3) : St := ⟨(jk 4 (.v ⟨(.sl 2 (.int .i64)), ()⟩ :: jk 82 [])), [some (.one ⟨T_noonmarkref17_Spec, z.1⟩), some (.one ⟨T_posix_spec, z.2.1⟩), some (.arr 2 (.int .i64) z.2.2)]⟩
abbrev posix_Yearly_t4 := Int × Int × (List Int) × Int × Int × D_noonmarkref17_Spec × D_posix_spec
def posix_Yearly_m4 (z : posix_Yearly_t4) : St := ⟨(jk 4 (.v ⟨(.nl (.int .i64)), ()⟩ :: .junk :: .v ⟨(.ptr 1 0 T_posix_spec), ()⟩ :: .junk :: .junk :: .v ⟨(.int .i64), z.1⟩ :: .v ⟨(.int .i64), z.2.1⟩ :: jk 46 (.v ⟨(.list (.int .i64)), z.2.2.1⟩ :: .v ⟨(.int .i64), z.2.2.2.1⟩ :: .v ⟨(.int .i64), z.2.2.2.2.1⟩ :: jk 27 []))), [some (.one ⟨T_noonmarkref17_Spec, z.2.2.2.2.2.1⟩), some (.one ⟨T_posix_spec, z.2.2.2.2.2.2⟩)]⟩
abbrev posix_Yearly_t5 := Int × Int × (List Int) × Int × Int × D_noonmarkref17_Spec × D_posix_spec × (List Int)
def posix_Yearly_m5 (z : posix_Yearly_t5) : St := ⟨(jk 4 (.v ⟨(.sl 2 (.int .i64)), ()⟩ :: .junk :: .v ⟨(.ptr 1 0 T_posix_spec), ()⟩ :: .junk :: .junk :: .v ⟨(.int .i64), z.1⟩ :: .v ⟨(.int .i64), z.2.1⟩ :: jk 46 (.v ⟨(.list (.int .i64)), z.2.2.1⟩ :: .v ⟨(.int .i64), z.2.2.2.1⟩ :: .v ⟨(.int .i64), z.2.2.2.2.1⟩ :: jk 27 []))), [some (.one ⟨T_noonmarkref17_Spec, z.2.2.2.2.2.1⟩), some (.one ⟨T_posix_spec, z.2.2.2.2.2.2.1⟩), some (.arr 2 (.int .i64) z.2.2.2.2.2.2.2)]⟩
abbrev posix_Yearly_t6 := Int × Int × (List Int) × Int × Int × D_noonmarkref17_Spec × D_posix_spec × (List Int)
def posix_Yearly_m6 (z : posix_Yearly_t6) : St := ⟨(jk 4 (.v ⟨(.sl 2 (.int .i64)), ()⟩ :: .junk :: .v ⟨(.ptr 1 0 T_posix_spec), ()⟩ :: .junk :: .junk :: .v ⟨(.int .i64), z.1⟩ :: .v ⟨(.int .i64), z.2.1⟩ :: jk 46 (.v ⟨(.list (.int .i64)), z.2.2.1⟩ :: .v ⟨(.int .i64), z.2.2.2.1⟩ :: .v ⟨(.int .i64), z.2.2.2.2.1⟩ :: jk 27 []))), [some (.one ⟨T_noonmarkref17_Spec, z.2.2.2.2.2.1⟩), some (.one ⟨T_posix_spec, z.2.2.2.2.2.2.1⟩), some (.arr 2 (.int .i64) z.2.2.2.2.2.2.2)]⟩
abbrev posix_Yearly_t7 := Int × Int × Int × (List Int) × Int × Int × Bool × D_noonmarkref17_Spec × D_posix_spec × (List Int)
def posix_Yearly_m7 (z : posix_Yearly_t7) : St := ⟨(jk 4 (.v ⟨(.sl 2 (.int .i64)), ()⟩ :: .junk :: .v ⟨(.ptr 1 0 T_posix_spec), ()⟩ :: .junk :: .junk :: .v ⟨(.int .i64), z.1⟩ :: .v ⟨(.int .i64), z.2.1⟩ :: .junk :: .v ⟨(.int .i64), z.2.2.1⟩ :: jk 44 (.v ⟨(.list (.int .i64)), z.2.2.2.1⟩ :: .v ⟨(.int .i64), z.2.2.2.2.1⟩ :: .v ⟨(.int .i64), z.2.2.2.2.2.1⟩ :: jk 20 (.v ⟨.bool, z.2.2.2.2.2.2.1⟩ :: jk 6 [])))), [some (.one ⟨T_noonmarkref17_Spec, z.2.2.2.2.2.2.2.1⟩), some (.one ⟨T_posix_spec, z.2.2.2.2.2.2.2.2.1⟩), some (.arr 2 (.int .i64) z.2.2.2.2.2.2.2.2.2)]⟩
def posix_Yearly_p3 (_n : Nat) (z : posix_Yearly_t3) : posix_Yearly_R :=
  some (z.2.2, ((0 : Int), ()))
def posix_Yearly_s3 (n : Nat) (z : posix_Yearly_t3) : posix_Yearly_R := posix_Yearly_p3 n z
theorem posix_Yearly_e3 (n : Nat) (rc : RC posix_Yearly_R) (z : posix_Yearly_t3) : codeR rc Tryz.prog posix_Yearly_sp n posix_Yearly_c0 posix_Yearly_a0 (posix_Yearly_m3 z) posix_Yearly_K0 = posix_Yearly_p3 n z := by kernel_rfl
theorem posix_Yearly_q3 (n : Nat) (z : posix_Yearly_t3) : codeK Tryz.prog posix_Yearly_sp n posix_Yearly_c0 posix_Yearly_a0 (posix_Yearly_m3 z) posix_Yearly_K0 = posix_Yearly_s3 n z := by
  rw [codeK_R, posix_Yearly_e3]
  rfl
def posix_Yearly_p6 (_n : Nat) (_k3 : posix_Yearly_t3 → posix_Yearly_R) (r5 : posix_Yearly_t5 → posix_Yearly_R) (z : posix_Yearly_t6) : posix_Yearly_R :=
  r5 (z.1, z.2.1, z.2.2.1, z.2.2.2.1, (w64 (z.2.2.2.2.1 + 1)), z.2.2.2.2.2.1, z.2.2.2.2.2.2.1, z.2.2.2.2.2.2.2)
def posix_Yearly_s6 (n : Nat) (k3 : posix_Yearly_t3 → posix_Yearly_R) (r5 : posix_Yearly_t5 → posix_Yearly_R) (z : posix_Yearly_t6) : posix_Yearly_R := posix_Yearly_p6 n k3 r5 z
theorem posix_Yearly_e6 (n : Nat) (k3 : St → posix_Yearly_R) (r5 : St → posix_Yearly_R) (rc : RC posix_Yearly_R) (z : posix_Yearly_t6) : codeR rc Tryz.prog posix_Yearly_sp n posix_Yearly_c1 posix_Yearly_a1 (posix_Yearly_m6 z) (posix_Yearly_K1 r5 k3) = posix_Yearly_p6 n (fun y => k3 (posix_Yearly_m3 y)) (fun y => r5 (posix_Yearly_m5 y)) z := by kernel_rfl
theorem posix_Yearly_q6 (n : Nat) (k3 : St → posix_Yearly_R) (r5 : St → posix_Yearly_R) (z : posix_Yearly_t6) : codeK Tryz.prog posix_Yearly_sp n posix_Yearly_c1 posix_Yearly_a1 (posix_Yearly_m6 z) (posix_Yearly_K1 r5 k3) = posix_Yearly_s6 n (fun y => k3 (posix_Yearly_m3 y)) (fun y => r5 (posix_Yearly_m5 y)) z := by
  rw [codeK_R, posix_Yearly_e6]
  rfl
def posix_Yearly_p7 (_n : Nat) (_k3 : posix_Yearly_t3 → posix_Yearly_R) (_r5 : posix_Yearly_t5 → posix_Yearly_R) (k6 : posix_Yearly_t6 → posix_Yearly_R) (z : posix_Yearly_t7) : posix_Yearly_R :=
  bif z.2.2.2.2.2.2.1 then
    let t18 := (z.2.2.1 :: [])
    bif decide ((List.length z.2.2.2.2.2.2.2.2.2 + List.length t18) * (8 + 1) ≤ 140737488355328) then
      k6 (z.1, z.2.1, z.2.2.2.1, z.2.2.2.2.1, z.2.2.2.2.2.1, z.2.2.2.2.2.2.2.1, z.2.2.2.2.2.2.2.2.1, (z.2.2.2.2.2.2.2.2.2 ++ t18))
    else none
  else
    k6 (z.1, z.2.1, z.2.2.2.1, z.2.2.2.2.1, z.2.2.2.2.2.1, z.2.2.2.2.2.2.2.1, z.2.2.2.2.2.2.2.2.1, z.2.2.2.2.2.2.2.2.2)
def posix_Yearly_s7 (n : Nat) (k3 : posix_Yearly_t3 → posix_Yearly_R) (r5 : posix_Yearly_t5 → posix_Yearly_R) (k6 : posix_Yearly_t6 → posix_Yearly_R) (z : posix_Yearly_t7) : posix_Yearly_R := posix_Yearly_p7 n k3 r5 k6 z
theorem posix_Yearly_e7 (n : Nat) (k3 : St → posix_Yearly_R) (r5 : St → posix_Yearly_R) (k6 : St → posix_Yearly_R) (rc : RC posix_Yearly_R) (z : posix_Yearly_t7) : codeR rc Tryz.prog posix_Yearly_sp n posix_Yearly_c2 posix_Yearly_a4 (posix_Yearly_m7 z) (posix_Yearly_K2 k6 r5 k3) = posix_Yearly_p7 n (fun y => k3 (posix_Yearly_m3 y)) (fun y => r5 (posix_Yearly_m5 y)) (fun y => k6 (posix_Yearly_m6 y)) z := by kernel_rfl
theorem posix_Yearly_q7 (n : Nat) (k3 : St → posix_Yearly_R) (r5 : St → posix_Yearly_R) (k6 : St → posix_Yearly_R) (z : posix_Yearly_t7) : codeK Tryz.prog posix_Yearly_sp n posix_Yearly_c2 posix_Yearly_a4 (posix_Yearly_m7 z) (posix_Yearly_K2 k6 r5 k3) = posix_Yearly_s7 n (fun y => k3 (posix_Yearly_m3 y)) (fun y => r5 (posix_Yearly_m5 y)) (fun y => k6 (posix_Yearly_m6 y)) z := by
  rw [codeK_R, posix_Yearly_e7]
  rfl
def posix_Yearly_p5 (n : Nat) (k3 : posix_Yearly_t3 → posix_Yearly_R) (_r5 : posix_Yearly_t5 → posix_Yearly_R) (k6 : posix_Yearly_t6 → posix_Yearly_R) (k7 : posix_Yearly_t7 → posix_Yearly_R) (z : posix_Yearly_t5) : posix_Yearly_R :=
  bif (decide (z.2.2.2.2.1 < z.2.2.2.1)) then
    bif decide (0 ≤ z.2.2.2.2.1) then
      ((z.2.2.1[Int.toNat z.2.2.2.2.1]?)).bind fun e14 =>
      bif (decide (e14 ≥ z.1)) then
        bif (decide (e14 < z.2.1)) then
          ((posix_spec_told n (z.2.2.2.2.2.2.1, ((w64 (e14 - 1)), ())))).bind fun v16 =>
          ((posix_spec_told n (z.2.2.2.2.2.2.1, (e14, ())))).bind fun v17 =>
          k7 (z.1, z.2.1, e14, z.2.2.1, z.2.2.2.1, z.2.2.2.2.1, (!(eqD T_api_Local v16.1 v17.1)), z.2.2.2.2.2.1, z.2.2.2.2.2.2.1, z.2.2.2.2.2.2.2)
        else
          k7 (z.1, z.2.1, e14, z.2.2.1, z.2.2.2.1, z.2.2.2.2.1, false, z.2.2.2.2.2.1, z.2.2.2.2.2.2.1, z.2.2.2.2.2.2.2)
      else
        k7 (z.1, z.2.1, e14, z.2.2.1, z.2.2.2.1, z.2.2.2.2.1, false, z.2.2.2.2.2.1, z.2.2.2.2.2.2.1, z.2.2.2.2.2.2.2)
    else none
  else
    k3 (z.2.2.2.2.2.1, z.2.2.2.2.2.2.1, z.2.2.2.2.2.2.2)
def posix_Yearly_s5 (n : Nat) (k3 : posix_Yearly_t3 → posix_Yearly_R) (r5 : posix_Yearly_t5 → posix_Yearly_R) (z : posix_Yearly_t5) : posix_Yearly_R := posix_Yearly_p5 n k3 r5 (posix_Yearly_s6 n k3 r5) (posix_Yearly_s7 n k3 r5 (posix_Yearly_s6 n k3 r5)) z
theorem posix_Yearly_e5 (n : Nat) (k3 : St → posix_Yearly_R) (r5 : St → posix_Yearly_R) (rc : RC posix_Yearly_R) (z : posix_Yearly_t5) : codeR rc Tryz.prog posix_Yearly_sp n posix_Yearly_c3 posix_Yearly_a6 (posix_Yearly_m5 z) (posix_Yearly_K3 r5 k3) = posix_Yearly_p5 n (fun y => k3 (posix_Yearly_m3 y)) (fun y => r5 (posix_Yearly_m5 y)) (fun y => rc posix_Yearly_c1 posix_Yearly_a1 (posix_Yearly_m6 y) (posix_Yearly_K1 r5 k3)) (fun y => rc posix_Yearly_c2 posix_Yearly_a4 (posix_Yearly_m7 y) (posix_Yearly_K2 (fun st => rc posix_Yearly_c1 posix_Yearly_a1 st (posix_Yearly_K1 r5 k3)) r5 k3)) z := by kernel_rfl
theorem posix_Yearly_q5 (n : Nat) (k3 : St → posix_Yearly_R) (r5 : St → posix_Yearly_R) (z : posix_Yearly_t5) : codeK Tryz.prog posix_Yearly_sp n posix_Yearly_c3 posix_Yearly_a6 (posix_Yearly_m5 z) (posix_Yearly_K3 r5 k3) = posix_Yearly_s5 n (fun y => k3 (posix_Yearly_m3 y)) (fun y => r5 (posix_Yearly_m5 y)) z := by
  have h6 : (fun y => codeK Tryz.prog posix_Yearly_sp n posix_Yearly_c1 posix_Yearly_a1 (posix_Yearly_m6 y) (posix_Yearly_K1 r5 k3)) = (posix_Yearly_s6 n (fun y => k3 (posix_Yearly_m3 y)) (fun y => r5 (posix_Yearly_m5 y))) := funext fun y => by
    have := posix_Yearly_q6 n k3 r5 y
    exact this
  have h7 : (fun y => codeK Tryz.prog posix_Yearly_sp n posix_Yearly_c2 posix_Yearly_a4 (posix_Yearly_m7 y) (posix_Yearly_K2 (fun st => codeK Tryz.prog posix_Yearly_sp n posix_Yearly_c1 posix_Yearly_a1 st (posix_Yearly_K1 r5 k3)) r5 k3)) = (posix_Yearly_s7 n (fun y => k3 (posix_Yearly_m3 y)) (fun y => r5 (posix_Yearly_m5 y)) (posix_Yearly_s6 n (fun y => k3 (posix_Yearly_m3 y)) (fun y => r5 (posix_Yearly_m5 y)))) := funext fun y => by
    have := posix_Yearly_q7 n k3 r5 (fun st => codeK Tryz.prog posix_Yearly_sp n posix_Yearly_c1 posix_Yearly_a1 st (posix_Yearly_K1 r5 k3)) y
    rw [h6] at this; exact this
  rw [codeK_R, posix_Yearly_e5]
  rw [h6]
  rw [h7]
  rfl
def posix_Yearly_s4 (n : Nat) (k3 : posix_Yearly_t3 → posix_Yearly_R) (z : posix_Yearly_t4) : posix_Yearly_R :=
  rounds (fun r5 x' => posix_Yearly_s5 n k3 r5 x') n (z.1, z.2.1, z.2.2.1, z.2.2.2.1, z.2.2.2.2.1, z.2.2.2.2.2.1, z.2.2.2.2.2.2, ([] : List Int))
theorem posix_Yearly_q4 (n : Nat) (k3 : St → posix_Yearly_R) (z : posix_Yearly_t4) : codeK Tryz.prog posix_Yearly_sp n posix_Yearly_c4 posix_Yearly_a7 (posix_Yearly_m4 z) (posix_Yearly_K4 k3) = posix_Yearly_s4 n (fun y => k3 (posix_Yearly_m3 y)) z :=
  Eq.trans (b := rounds (fun r5 st => codeK Tryz.prog posix_Yearly_sp n posix_Yearly_c3 posix_Yearly_a6 st (posix_Yearly_K3 r5 k3)) n (posix_Yearly_m5 (z.1, z.2.1, z.2.2.1, z.2.2.2.1, z.2.2.2.2.1, z.2.2.2.2.2.1, z.2.2.2.2.2.2, ([] : List Int)))) (by kernel_rfl) (rounds_mk posix_Yearly_m5 (fun r5 x' => by
    have := (posix_Yearly_q5 n k3 r5 x')
    exact this) n _)
def posix_Yearly_p0 (n : Nat) (k3 : posix_Yearly_t3 → posix_Yearly_R) (k4 : posix_Yearly_t4 → posix_Yearly_R) (z : posix_Yearly_t0) : posix_Yearly_R :=
  ((sortF n z.2.2.2 ())).bind fun s9 =>
  ((posix_spec_begin n (z.2.2.1, (z.1, ())))).bind fun v10 =>
  ((posix_spec_begin n (z.2.2.1, ((w64 (z.1 + 1)), ())))).bind fun v12 =>
  ((compF n (s9, ()) ((), ()))).bind fun v13 =>
  k4 (v10.1, v12.1, v13.2.1, (List.length v13.2.1 : Int), (0 : Int), z.2.1, z.2.2.1)
def posix_Yearly_s0 (n : Nat) (z : posix_Yearly_t0) : posix_Yearly_R := posix_Yearly_p0 n (posix_Yearly_s3 n) (posix_Yearly_s4 n (posix_Yearly_s3 n)) z
theorem posix_Yearly_e0 (n : Nat) (rc : RC posix_Yearly_R) (z : posix_Yearly_t0) : codeR rc Tryz.prog posix_Yearly_sp n posix_Yearly_c5 posix_Yearly_a8 (posix_Yearly_m0 z) posix_Yearly_K5 = posix_Yearly_p0 n (fun y => rc posix_Yearly_c0 posix_Yearly_a0 (posix_Yearly_m3 y) posix_Yearly_K0) (fun y => rc posix_Yearly_c4 posix_Yearly_a7 (posix_Yearly_m4 y) (posix_Yearly_K4 (fun st => rc posix_Yearly_c0 posix_Yearly_a0 st posix_Yearly_K0))) z := by kernel_rfl
theorem posix_Yearly_q0 (n : Nat) (z : posix_Yearly_t0) : codeK Tryz.prog posix_Yearly_sp n posix_Yearly_c5 posix_Yearly_a8 (posix_Yearly_m0 z) posix_Yearly_K5 = posix_Yearly_s0 n z := by
  have h3 : (fun y => codeK Tryz.prog posix_Yearly_sp n posix_Yearly_c0 posix_Yearly_a0 (posix_Yearly_m3 y) posix_Yearly_K0) = (posix_Yearly_s3 n) := funext fun y => by
    have := posix_Yearly_q3 n  y
    exact this
  have h4 : (fun y => codeK Tryz.prog posix_Yearly_sp n posix_Yearly_c4 posix_Yearly_a7 (posix_Yearly_m4 y) (posix_Yearly_K4 (fun st => codeK Tryz.prog posix_Yearly_sp n posix_Yearly_c0 posix_Yearly_a0 st posix_Yearly_K0))) = (posix_Yearly_s4 n (posix_Yearly_s3 n)) := funext fun y => by
    have := posix_Yearly_q4 n (fun st => codeK Tryz.prog posix_Yearly_sp n posix_Yearly_c0 posix_Yearly_a0 st posix_Yearly_K0) y
    rw [h3] at this; exact this
  rw [codeK_R, posix_Yearly_e0]
  rw [h3]
  rw [h4]
  rfl
def posix_Yearly_p2 (n : Nat) (k0 : posix_Yearly_t0 → posix_Yearly_R) (r2 : posix_Yearly_t2 → posix_Yearly_R) (z : posix_Yearly_t2) : posix_Yearly_R :=
  bif (decide (z.2.1 ≤ (w64 (z.1 + 2)))) then
    ((posix_spec_start n (z.2.2.2.1, (z.2.1, ())))).bind fun v4 =>
    ((posix_spec_end n (z.2.2.2.1, (z.2.1, ())))).bind fun v5 =>
    let t6 := (v4.1 :: v5.1 :: [])
    bif decide ((List.length z.2.2.2.2 + List.length t6) * (8 + 1) ≤ 140737488355328) then
      r2 (z.1, (w64 (z.2.1 + 1)), z.2.2.1, z.2.2.2.1, (z.2.2.2.2 ++ t6))
    else none
  else
    k0 (z.1, z.2.2.1, z.2.2.2.1, z.2.2.2.2)
def posix_Yearly_s2 (n : Nat) (k0 : posix_Yearly_t0 → posix_Yearly_R) (r2 : posix_Yearly_t2 → posix_Yearly_R) (z : posix_Yearly_t2) : posix_Yearly_R := posix_Yearly_p2 n k0 r2 z
theorem posix_Yearly_e2 (n : Nat) (k0 : St → posix_Yearly_R) (r2 : St → posix_Yearly_R) (rc : RC posix_Yearly_R) (z : posix_Yearly_t2) : codeR rc Tryz.prog posix_Yearly_sp n posix_Yearly_c6 posix_Yearly_a9 (posix_Yearly_m2 z) (posix_Yearly_K6 r2 k0) = posix_Yearly_p2 n (fun y => k0 (posix_Yearly_m0 y)) (fun y => r2 (posix_Yearly_m2 y)) z := by kernel_rfl
theorem posix_Yearly_q2 (n : Nat) (k0 : St → posix_Yearly_R) (r2 : St → posix_Yearly_R) (z : posix_Yearly_t2) : codeK Tryz.prog posix_Yearly_sp n posix_Yearly_c6 posix_Yearly_a9 (posix_Yearly_m2 z) (posix_Yearly_K6 r2 k0) = posix_Yearly_s2 n (fun y => k0 (posix_Yearly_m0 y)) (fun y => r2 (posix_Yearly_m2 y)) z := by
  rw [codeK_R, posix_Yearly_e2]
  rfl
def posix_Yearly_s1 (n : Nat) (k0 : posix_Yearly_t0 → posix_Yearly_R) (z : posix_Yearly_t1) : posix_Yearly_R :=
  rounds (fun r2 x' => posix_Yearly_s2 n k0 r2 x') n (z.1, z.2.1, z.2.2.1, z.2.2.2, ([] : List Int))
theorem posix_Yearly_q1 (n : Nat) (k0 : St → posix_Yearly_R) (z : posix_Yearly_t1) : codeK Tryz.prog posix_Yearly_sp n posix_Yearly_c7 posix_Yearly_a12 (posix_Yearly_m1 z) (posix_Yearly_K7 k0) = posix_Yearly_s1 n (fun y => k0 (posix_Yearly_m0 y)) z :=
  Eq.trans (b := rounds (fun r2 st => codeK Tryz.prog posix_Yearly_sp n posix_Yearly_c6 posix_Yearly_a9 st (posix_Yearly_K6 r2 k0)) n (posix_Yearly_m2 (z.1, z.2.1, z.2.2.1, z.2.2.2, ([] : List Int)))) (by kernel_rfl) (rounds_mk posix_Yearly_m2 (fun r2 x' => by
    have := (posix_Yearly_q2 n k0 r2 x')
    exact this) n _)
def posix_Yearly_px (n : Nat) (k0 : posix_Yearly_t0 → posix_Yearly_R) (k1 : posix_Yearly_t1 → posix_Yearly_R) (x : (D_noonmarkref17_Spec × (Int × Unit))) : posix_Yearly_R :=
  ((footer_Right n (x.1, ()))).bind fun v1 =>
  bif (!v1.1) then
    some (([] : List Int), ((1 : Int), ()))
  else
    bif (decide (x.2.1 < (-9000))) then
      some (([] : List Int), ((8 : Int), ()))
    else
      bif (decide (x.2.1 > 9000)) then
        some (([] : List Int), ((8 : Int), ()))
      else
        bif (x.1.2.2.1.toList == (⟨#[]⟩ : ByteArray).toList) then
          some (([] : List Int), ((0 : Int), ()))
        else
          k1 (x.2.1, (w64 (x.2.1 - 2)), x.1, (x.1, ()))
def posix_Yearly (n : Nat) (x : (D_noonmarkref17_Spec × (Int × Unit))) : posix_Yearly_R := posix_Yearly_px n (posix_Yearly_s0 n) (posix_Yearly_s1 n (posix_Yearly_s0 n)) x
theorem posix_Yearly_ex (n : Nat) (rc : RC posix_Yearly_R) (x : (D_noonmarkref17_Spec × (Int × Unit))) : codeR rc Tryz.prog posix_Yearly_sp n (bodyOf Tryz.f8) posix_Yearly_an (start posix_Yearly_ps x (Func.ntmps Tryz.f8)) posix_Yearly_K8 = posix_Yearly_px n (fun y => rc posix_Yearly_c5 posix_Yearly_a8 (posix_Yearly_m0 y) posix_Yearly_K5) (fun y => rc posix_Yearly_c7 posix_Yearly_a12 (posix_Yearly_m1 y) (posix_Yearly_K7 (fun st => rc posix_Yearly_c5 posix_Yearly_a8 st posix_Yearly_K5))) x := by kernel_rfl
theorem posix_Yearly_qx (n : Nat) (x : (D_noonmarkref17_Spec × (Int × Unit))) : codeK Tryz.prog posix_Yearly_sp n (bodyOf Tryz.f8) posix_Yearly_an (start posix_Yearly_ps x (Func.ntmps Tryz.f8)) posix_Yearly_K8 = posix_Yearly n x := by
  have h0 : (fun y => codeK Tryz.prog posix_Yearly_sp n posix_Yearly_c5 posix_Yearly_a8 (posix_Yearly_m0 y) posix_Yearly_K5) = (posix_Yearly_s0 n) := funext fun y => by
    have := posix_Yearly_q0 n  y
    exact this
  have h1 : (fun y => codeK Tryz.prog posix_Yearly_sp n posix_Yearly_c7 posix_Yearly_a12 (posix_Yearly_m1 y) (posix_Yearly_K7 (fun st => codeK Tryz.prog posix_Yearly_sp n posix_Yearly_c5 posix_Yearly_a8 st posix_Yearly_K5))) = (posix_Yearly_s1 n (posix_Yearly_s0 n)) := funext fun y => by
    have := posix_Yearly_q1 n (fun st => codeK Tryz.prog posix_Yearly_sp n posix_Yearly_c5 posix_Yearly_a8 st posix_Yearly_K5) y
    rw [h0] at this; exact this
  rw [codeK_R, posix_Yearly_ex]
  rw [h0]
  rw [h1]
  rfl
def posix_Yearly_spec : SpO := ⟨posix_Yearly_ps, 2, (.int .i64), posix_Yearly_rr, posix_Yearly⟩
theorem posix_Yearly_ok : SoundX Tryz.prog CX 8 (.o posix_Yearly_spec) := sound_funO (look_cons posix_spec_begin_ok (look_cons posix_spec_told_ok (look_cons footer_Right_ok (look_cons posix_spec_start_ok (look_cons posix_spec_end_ok (look_cons sort64_okX (look_cons comp64_okX look_nil))))))) Tryz.func8 (by kernel_rfl) rfl posix_Yearly_an posix_Yearly_spec rfl rfl rfl posix_Yearly_qx

/-! ### noonmark/posix.Hours$1 -/
abbrev posix_Hours_1_ps : Ty := (.pair (.int .i64) (.pair (.ptr 0 0 T_posix_spec) (.pair (.ptr 1 0 (.int .i64)) (.pair (.ptr 2 0 (.int .i64)) (.pair (.ptr 3 0 (.int .i64)) .unit)))))
abbrev posix_Hours_1_rs : Ty := .unit
abbrev posix_Hours_1_ks : List (Option TypeId) := [none, none, none, none]
abbrev posix_Hours_1_ct : Ty := (.pair T_posix_spec T_api_Day)
def posix_Hours_1_sp : Specs := look [(15, .f posix_spec_told_spec)]
def posix_Hours_1_an : An := (.k [] [0,2] 4 .o .o)
abbrev posix_Hours_1_R := Option ((D_posix_spec × D_api_Day) × Unit)
noncomputable abbrev posix_Hours_1_K0 : Ex → St → posix_Hours_1_R := (kFinM Tryz.prog posix_Hours_1_ks posix_Hours_1_ct posix_Hours_1_rs Tryz.f14)
noncomputable abbrev posix_Hours_1_K1 : Ex → St → posix_Hours_1_R := (kFinM Tryz.prog posix_Hours_1_ks posix_Hours_1_ct posix_Hours_1_rs Tryz.f14)
abbrev posix_Hours_1_t0 := Int × D_posix_spec × Int × Int × Int
def posix_Hours_1_m0 (z : posix_Hours_1_t0) : St := ⟨(.v ⟨(.int .i64), z.1⟩ :: .junk :: .v ⟨(.ptr 1 0 (.int .i64)), ()⟩ :: jk 18 []), [some (.one ⟨T_posix_spec, z.2.1⟩), some (.one ⟨(.int .i64), z.2.2.1⟩), some (.one ⟨(.int .i64), z.2.2.2.1⟩), some (.one ⟨(.int .i64), z.2.2.2.2⟩)]⟩
def posix_Hours_1_p0 (_n : Nat) (z : posix_Hours_1_t0) : posix_Hours_1_R :=
  some ((z.2.1, (z.1, (z.2.2.2.1, (z.2.2.2.2, ())))), ())
def posix_Hours_1_s0 (n : Nat) (z : posix_Hours_1_t0) : posix_Hours_1_R := posix_Hours_1_p0 n z
theorem posix_Hours_1_e0 (n : Nat) (rc : RC posix_Hours_1_R) (z : posix_Hours_1_t0) : codeR rc Tryz.prog posix_Hours_1_sp n (cr (bodyOf Tryz.f14)) posix_Hours_1_an.right (posix_Hours_1_m0 z) posix_Hours_1_K0 = posix_Hours_1_p0 n z := by kernel_rfl
theorem posix_Hours_1_q0 (n : Nat) (z : posix_Hours_1_t0) : codeK Tryz.prog posix_Hours_1_sp n (cr (bodyOf Tryz.f14)) posix_Hours_1_an.right (posix_Hours_1_m0 z) posix_Hours_1_K0 = posix_Hours_1_s0 n z := by
  rw [codeK_R, posix_Hours_1_e0]
  rfl
def posix_Hours_1_px (n : Nat) (k0 : posix_Hours_1_t0 → posix_Hours_1_R) (c : (D_posix_spec × D_api_Day)) (x : (Int × (Unit × (Unit × (Unit × (Unit × Unit)))))) : posix_Hours_1_R :=
  ((posix_spec_told n (c.1, (c.2.1, ())))).bind fun v1 =>
  bif v1.1.2.1 then
    k0 (x.1, c.1, c.2.1, (w64 (c.2.2.1 + (w64 (x.1 - c.2.1)))), c.2.2.2.1)
  else
    k0 (x.1, c.1, c.2.1, c.2.2.1, (w64 (c.2.2.2.1 + (w64 (x.1 - c.2.1)))))
def posix_Hours_1 (n : Nat) (c : (D_posix_spec × D_api_Day)) (x : (Int × (Unit × (Unit × (Unit × (Unit × Unit)))))) : posix_Hours_1_R := posix_Hours_1_px n (posix_Hours_1_s0 n) c x
theorem posix_Hours_1_ex (n : Nat) (rc : RC posix_Hours_1_R) (c : (D_posix_spec × D_api_Day)) (x : (Int × (Unit × (Unit × (Unit × (Unit × Unit)))))) : codeR rc Tryz.prog posix_Hours_1_sp n (bodyOf Tryz.f14) posix_Hours_1_an (startM posix_Hours_1_ks posix_Hours_1_ct c posix_Hours_1_ps x (Func.ntmps Tryz.f14)) posix_Hours_1_K1 = posix_Hours_1_px n (fun y => rc (cr (bodyOf Tryz.f14)) posix_Hours_1_an.right (posix_Hours_1_m0 y) posix_Hours_1_K0) c x := by kernel_rfl
theorem posix_Hours_1_qx (n : Nat) (c : (D_posix_spec × D_api_Day)) (x : (Int × (Unit × (Unit × (Unit × (Unit × Unit)))))) : codeK Tryz.prog posix_Hours_1_sp n (bodyOf Tryz.f14) posix_Hours_1_an (startM posix_Hours_1_ks posix_Hours_1_ct c posix_Hours_1_ps x (Func.ntmps Tryz.f14)) posix_Hours_1_K1 = posix_Hours_1 n c x := by
  have h0 : (fun y => codeK Tryz.prog posix_Hours_1_sp n (cr (bodyOf Tryz.f14)) posix_Hours_1_an.right (posix_Hours_1_m0 y) posix_Hours_1_K0) = (posix_Hours_1_s0 n) := funext fun y => by
    have := posix_Hours_1_q0 n  y
    exact this
  rw [codeK_R, posix_Hours_1_ex]
  rw [h0]
  rfl
def posix_Hours_1_spec : List SpM := [⟨posix_Hours_1_ks, posix_Hours_1_ct, posix_Hours_1_ps, posix_Hours_1_rs, posix_Hours_1, false⟩]
theorem posix_Hours_1_ok : SoundX Tryz.prog CX 14 (.m posix_Hours_1_spec) := sound_one (sound_funM (look_cons posix_spec_told_ok look_nil) Tryz.func14 (by kernel_rfl) rfl posix_Hours_1_an ⟨posix_Hours_1_ks, posix_Hours_1_ct, posix_Hours_1_ps, posix_Hours_1_rs, posix_Hours_1, false⟩ rfl rfl rfl posix_Hours_1_qx)

/-! ### noonmark/posix.Hours -/
abbrev posix_Hours_ps : Ty := (.pair T_noonmarkref17_Spec (.pair (.int .i64) .unit))
abbrev posix_Hours_rs : Ty := T_api_Day
def posix_Hours_sp : Specs := look [(13, .f posix_spec_begin_spec), (14, .m posix_Hours_1_spec), (8, .o posix_Yearly_spec)]
def posix_Hours_an : An := (.s .o (.s .o (.s .o (.s .o (.s .o (.s .o (.k [] [1,4,5,8,10] 6 (.k [] [1,4,5,8,10,28,29,30] 6 .o (.b (.l [] [1,4,5,8,10,28,29,30] 6 .o))) .o)))))))
abbrev posix_Hours_R := Option D_api_Day
noncomputable abbrev posix_Hours_c0 : Code := (cr (cr (cr (cr (cr (cr (cr (bodyOf Tryz.f6))))))))
noncomputable abbrev posix_Hours_c1 : Code := (cl (cl (cr (cl (cr (cr (cr (cr (cr (cr (bodyOf Tryz.f6)))))))))))
noncomputable abbrev posix_Hours_c2 : Code := (cr (cl (cr (cr (cr (cr (cr (cr (bodyOf Tryz.f6)))))))))
noncomputable abbrev posix_Hours_a0 : An := posix_Hours_an.right.right.right.right.right.right.right
noncomputable abbrev posix_Hours_a1 : An := posix_Hours_an.right.right.right.right.right.right.left.right.left.left
noncomputable abbrev posix_Hours_a2 : An := posix_Hours_an.right.right.right.right.right.right
noncomputable abbrev posix_Hours_a3 : An := posix_Hours_an.right.right.right.right.right.right.left.right.left
noncomputable abbrev posix_Hours_a4 : An := posix_Hours_an.right.right.right.right.right.right.left.right
noncomputable abbrev posix_Hours_K0 (r2 k0 : St → posix_Hours_R) : Ex → St → posix_Hours_R := (kSeq r2 posix_Hours_a3 (kBlk 0 (kSeq k0 posix_Hours_a2 (kFin Tryz.prog posix_Hours_rs Tryz.f6))))
noncomputable abbrev posix_Hours_K1 (k0 : St → posix_Hours_R) : Ex → St → posix_Hours_R := (kSeq k0 posix_Hours_a2 (kFin Tryz.prog posix_Hours_rs Tryz.f6))
abbrev posix_Hours_t0 := Int × (Unit × (Unit × (Unit × (Unit × Unit)))) × D_noonmarkref17_Spec × Int × Int × (List Int) × D_posix_spec × Int
def posix_Hours_m0 (z : posix_Hours_t0) : St := ⟨(.junk :: .v ⟨(.int .i64), z.1⟩ :: .junk :: .junk :: .v ⟨(.ptr 1 0 (.int .i64)), ()⟩ :: .v ⟨(.ptr 2 0 (.int .i64)), ()⟩ :: .junk :: .junk :: .v ⟨(.ptr 4 0 T_posix_spec), ()⟩ :: .junk :: .v ⟨(.fn 14 0 (.pair (.ptr 4 0 T_posix_spec) (.pair (.ptr 5 0 (.int .i64)) (.pair (.ptr 2 0 (.int .i64)) (.pair (.ptr 1 0 (.int .i64)) .unit))))), z.2.1⟩ :: jk 35 []), [some (.one ⟨T_noonmarkref17_Spec, z.2.2.1⟩), some (.one ⟨(.int .i64), z.2.2.2.1⟩), some (.one ⟨(.int .i64), z.2.2.2.2.1⟩), some (.arr 2 (.int .i64) z.2.2.2.2.2.1), some (.one ⟨T_posix_spec, z.2.2.2.2.2.2.1⟩), some (.one ⟨(.int .i64), z.2.2.2.2.2.2.2⟩)]⟩
abbrev posix_Hours_t1 := Int × (Unit × (Unit × (Unit × (Unit × Unit)))) × Int × Int × D_noonmarkref17_Spec × Int × Int × (List Int) × D_posix_spec × Int
def posix_Hours_m1 (z : posix_Hours_t1) : St := ⟨(.junk :: .v ⟨(.int .i64), z.1⟩ :: .junk :: .junk :: .v ⟨(.ptr 1 0 (.int .i64)), ()⟩ :: .v ⟨(.ptr 2 0 (.int .i64)), ()⟩ :: .junk :: .junk :: .v ⟨(.ptr 4 0 T_posix_spec), ()⟩ :: .junk :: .v ⟨(.fn 14 0 (.pair (.ptr 4 0 T_posix_spec) (.pair (.ptr 5 0 (.int .i64)) (.pair (.ptr 2 0 (.int .i64)) (.pair (.ptr 1 0 (.int .i64)) .unit))))), z.2.1⟩ :: jk 17 (.v ⟨(.sl 3 (.int .i64)), ()⟩ :: .v ⟨(.int .i64), z.2.2.1⟩ :: .v ⟨(.int .i64), z.2.2.2.1⟩ :: jk 15 [])), [some (.one ⟨T_noonmarkref17_Spec, z.2.2.2.2.1⟩), some (.one ⟨(.int .i64), z.2.2.2.2.2.1⟩), some (.one ⟨(.int .i64), z.2.2.2.2.2.2.1⟩), some (.arr 2 (.int .i64) z.2.2.2.2.2.2.2.1), some (.one ⟨T_posix_spec, z.2.2.2.2.2.2.2.2.1⟩), some (.one ⟨(.int .i64), z.2.2.2.2.2.2.2.2.2⟩)]⟩
abbrev posix_Hours_t2 := Int × (Unit × (Unit × (Unit × (Unit × Unit)))) × Int × Int × D_noonmarkref17_Spec × Int × Int × (List Int) × D_posix_spec × Int
def posix_Hours_m2 (z : posix_Hours_t2) : St := ⟨(.junk :: .v ⟨(.int .i64), z.1⟩ :: .junk :: .junk :: .v ⟨(.ptr 1 0 (.int .i64)), ()⟩ :: .v ⟨(.ptr 2 0 (.int .i64)), ()⟩ :: .junk :: .junk :: .v ⟨(.ptr 4 0 T_posix_spec), ()⟩ :: .junk :: .v ⟨(.fn 14 0 (.pair (.ptr 4 0 T_posix_spec) (.pair (.ptr 5 0 (.int .i64)) (.pair (.ptr 2 0 (.int .i64)) (.pair (.ptr 1 0 (.int .i64)) .unit))))), z.2.1⟩ :: jk 17 (.v ⟨(.sl 3 (.int .i64)), ()⟩ :: .v ⟨(.int .i64), z.2.2.1⟩ :: .v ⟨(.int .i64), z.2.2.2.1⟩ :: jk 15 [])), [some (.one ⟨T_noonmarkref17_Spec, z.2.2.2.2.1⟩), some (.one ⟨(.int .i64), z.2.2.2.2.2.1⟩), some (.one ⟨(.int .i64), z.2.2.2.2.2.2.1⟩), some (.arr 2 (.int .i64) z.2.2.2.2.2.2.2.1), some (.one ⟨T_posix_spec, z.2.2.2.2.2.2.2.2.1⟩), some (.one ⟨(.int .i64), z.2.2.2.2.2.2.2.2.2⟩)]⟩
def posix_Hours_p0 (n : Nat) (z : posix_Hours_t0) : posix_Hours_R :=
  ((posix_spec_begin n (z.2.2.2.2.2.2.1, ((w64 (z.1 + 1)), ())))).bind fun v8 =>
  ((posix_Hours_1 n (z.2.2.2.2.2.2.1, (z.2.2.2.2.2.2.2, (z.2.2.2.2.1, (z.2.2.2.1, ())))) (v8.1, ((), ((), ((), ((), ()))))))).bind fun v9 =>
  some (v9.1.2.2.2.1, (v9.1.2.2.1, ((0 : Int), ())))
def posix_Hours_s0 (n : Nat) (z : posix_Hours_t0) : posix_Hours_R := posix_Hours_p0 n z
theorem posix_Hours_e0 (n : Nat) (rc : RC posix_Hours_R) (z : posix_Hours_t0) : codeR rc Tryz.prog posix_Hours_sp n posix_Hours_c0 posix_Hours_a0 (posix_Hours_m0 z) (kFin Tryz.prog posix_Hours_rs Tryz.f6) = posix_Hours_p0 n z := by kernel_rfl
theorem posix_Hours_q0 (n : Nat) (z : posix_Hours_t0) : codeK Tryz.prog posix_Hours_sp n posix_Hours_c0 posix_Hours_a0 (posix_Hours_m0 z) (kFin Tryz.prog posix_Hours_rs Tryz.f6) = posix_Hours_s0 n z := by
  rw [codeK_R, posix_Hours_e0]
  rfl
def posix_Hours_p2 (n : Nat) (k0 : posix_Hours_t0 → posix_Hours_R) (r2 : posix_Hours_t2 → posix_Hours_R) (z : posix_Hours_t2) : posix_Hours_R :=
  bif (decide (z.2.2.2.1 < z.2.2.1)) then
    bif decide (0 ≤ z.2.2.2.1 ∧ z.2.2.2.1 < (List.length z.2.2.2.2.2.2.2.1 : Int)) then
      ((z.2.2.2.2.2.2.2.1[(Int.toNat z.2.2.2.1)]?)).bind fun e4 =>
      ((posix_Hours_1 n (z.2.2.2.2.2.2.2.2.1, (z.2.2.2.2.2.2.2.2.2, (z.2.2.2.2.2.2.1, (z.2.2.2.2.2.1, ())))) (e4, ((), ((), ((), ((), ()))))))).bind fun v5 =>
      r2 (z.1, z.2.1, z.2.2.1, (w64 (z.2.2.2.1 + 1)), z.2.2.2.2.1, v5.1.2.2.2.1, v5.1.2.2.1, z.2.2.2.2.2.2.2.1, v5.1.1, v5.1.2.1)
    else none
  else
    k0 (z.1, z.2.1, z.2.2.2.2.1, z.2.2.2.2.2.1, z.2.2.2.2.2.2.1, z.2.2.2.2.2.2.2.1, z.2.2.2.2.2.2.2.2.1, z.2.2.2.2.2.2.2.2.2)
def posix_Hours_s2 (n : Nat) (k0 : posix_Hours_t0 → posix_Hours_R) (r2 : posix_Hours_t2 → posix_Hours_R) (z : posix_Hours_t2) : posix_Hours_R := posix_Hours_p2 n k0 r2 z
theorem posix_Hours_e2 (n : Nat) (k0 : St → posix_Hours_R) (r2 : St → posix_Hours_R) (rc : RC posix_Hours_R) (z : posix_Hours_t2) : codeR rc Tryz.prog posix_Hours_sp n posix_Hours_c1 posix_Hours_a1 (posix_Hours_m2 z) (posix_Hours_K0 r2 k0) = posix_Hours_p2 n (fun y => k0 (posix_Hours_m0 y)) (fun y => r2 (posix_Hours_m2 y)) z := by kernel_rfl
theorem posix_Hours_q2 (n : Nat) (k0 : St → posix_Hours_R) (r2 : St → posix_Hours_R) (z : posix_Hours_t2) : codeK Tryz.prog posix_Hours_sp n posix_Hours_c1 posix_Hours_a1 (posix_Hours_m2 z) (posix_Hours_K0 r2 k0) = posix_Hours_s2 n (fun y => k0 (posix_Hours_m0 y)) (fun y => r2 (posix_Hours_m2 y)) z := by
  rw [codeK_R, posix_Hours_e2]
  rfl
def posix_Hours_s1 (n : Nat) (k0 : posix_Hours_t0 → posix_Hours_R) (z : posix_Hours_t1) : posix_Hours_R :=
  rounds (fun r2 x' => posix_Hours_s2 n k0 r2 x') n (z.1, z.2.1, z.2.2.1, z.2.2.2.1, z.2.2.2.2.1, z.2.2.2.2.2.1, z.2.2.2.2.2.2.1, z.2.2.2.2.2.2.2.1, z.2.2.2.2.2.2.2.2.1, z.2.2.2.2.2.2.2.2.2)
theorem posix_Hours_q1 (n : Nat) (k0 : St → posix_Hours_R) (z : posix_Hours_t1) : codeK Tryz.prog posix_Hours_sp n posix_Hours_c2 posix_Hours_a4 (posix_Hours_m1 z) (posix_Hours_K1 k0) = posix_Hours_s1 n (fun y => k0 (posix_Hours_m0 y)) z :=
  Eq.trans (b := rounds (fun r2 st => codeK Tryz.prog posix_Hours_sp n posix_Hours_c1 posix_Hours_a1 st (posix_Hours_K0 r2 k0)) n (posix_Hours_m2 (z.1, z.2.1, z.2.2.1, z.2.2.2.1, z.2.2.2.2.1, z.2.2.2.2.2.1, z.2.2.2.2.2.2.1, z.2.2.2.2.2.2.2.1, z.2.2.2.2.2.2.2.2.1, z.2.2.2.2.2.2.2.2.2))) (by kernel_rfl) (rounds_mk posix_Hours_m2 (fun r2 x' => by
    have := (posix_Hours_q2 n k0 r2 x')
    exact this) n _)
def posix_Hours_px (n : Nat) (k0 : posix_Hours_t0 → posix_Hours_R) (k1 : posix_Hours_t1 → posix_Hours_R) (x : (D_noonmarkref17_Spec × (Int × Unit))) : posix_Hours_R :=
  ((posix_Yearly n (x.1, (x.2.1, ())))).bind fun v1 =>
  bif (v1.2.1 != 0) then
    some ((0 : Int), ((0 : Int), (v1.2.1, ())))
  else
    ((posix_spec_begin n ((x.1, ()), (x.2.1, ())))).bind fun v2 =>
    k1 (x.2.1, ((), ((), ((), ((), ())))), (List.length v1.1 : Int), (0 : Int), x.1, (0 : Int), (0 : Int), v1.1, (x.1, ()), v2.1)
def posix_Hours (n : Nat) (x : (D_noonmarkref17_Spec × (Int × Unit))) : posix_Hours_R := posix_Hours_px n (posix_Hours_s0 n) (posix_Hours_s1 n (posix_Hours_s0 n)) x
theorem posix_Hours_ex (n : Nat) (rc : RC posix_Hours_R) (x : (D_noonmarkref17_Spec × (Int × Unit))) : codeR rc Tryz.prog posix_Hours_sp n (bodyOf Tryz.f6) posix_Hours_an (start posix_Hours_ps x (Func.ntmps Tryz.f6)) (kFin Tryz.prog posix_Hours_rs Tryz.f6) = posix_Hours_px n (fun y => rc posix_Hours_c0 posix_Hours_a0 (posix_Hours_m0 y) (kFin Tryz.prog posix_Hours_rs Tryz.f6)) (fun y => rc posix_Hours_c2 posix_Hours_a4 (posix_Hours_m1 y) (posix_Hours_K1 (fun st => rc posix_Hours_c0 posix_Hours_a0 st (kFin Tryz.prog posix_Hours_rs Tryz.f6)))) x := by kernel_rfl
theorem posix_Hours_qx (n : Nat) (x : (D_noonmarkref17_Spec × (Int × Unit))) : codeK Tryz.prog posix_Hours_sp n (bodyOf Tryz.f6) posix_Hours_an (start posix_Hours_ps x (Func.ntmps Tryz.f6)) (kFin Tryz.prog posix_Hours_rs Tryz.f6) = posix_Hours n x := by
  have h0 : (fun y => codeK Tryz.prog posix_Hours_sp n posix_Hours_c0 posix_Hours_a0 (posix_Hours_m0 y) (kFin Tryz.prog posix_Hours_rs Tryz.f6)) = (posix_Hours_s0 n) := funext fun y => by
    have := posix_Hours_q0 n  y
    exact this
  have h1 : (fun y => codeK Tryz.prog posix_Hours_sp n posix_Hours_c2 posix_Hours_a4 (posix_Hours_m1 y) (posix_Hours_K1 (fun st => codeK Tryz.prog posix_Hours_sp n posix_Hours_c0 posix_Hours_a0 st (kFin Tryz.prog posix_Hours_rs Tryz.f6)))) = (posix_Hours_s1 n (posix_Hours_s0 n)) := funext fun y => by
    have := posix_Hours_q1 n (fun st => codeK Tryz.prog posix_Hours_sp n posix_Hours_c0 posix_Hours_a0 st (kFin Tryz.prog posix_Hours_rs Tryz.f6)) y
    rw [h0] at this; exact this
  rw [codeK_R, posix_Hours_ex]
  rw [h0]
  rw [h1]
  rfl
def posix_Hours_spec : Sp := ⟨posix_Hours_ps, posix_Hours_rs, posix_Hours⟩
theorem posix_Hours_ok : SoundX Tryz.prog CX 6 (.f posix_Hours_spec) := sound_of (look_cons posix_spec_begin_ok (look_cons posix_Hours_1_ok (look_cons posix_Yearly_ok look_nil))) Tryz.func6 (by kernel_rfl) rfl posix_Hours_an posix_Hours_spec rfl rfl posix_Hours_qx

/-! ### noonmark/noonmarklaw17.edge -/
abbrev noonmarklaw17_edge_ps : Ty := (.pair T_noonmarkref17_Edge .unit)
abbrev noonmarklaw17_edge_rs : Ty := (.pair T_noonmarkref17_Edge .unit)
def noonmarklaw17_edge_sp : Specs := look []
def noonmarklaw17_edge_an : An := .o
abbrev noonmarklaw17_edge_R := Option (D_noonmarkref17_Edge × Unit)

def noonmarklaw17_edge_px (_n : Nat) (x : (D_noonmarkref17_Edge × Unit)) : noonmarklaw17_edge_R :=
  some ((x.1.1, (x.1.2.1, (x.1.2.2.1, (x.1.2.2.2.1, (x.1.2.2.2.2.1, ()))))), ())
def noonmarklaw17_edge (n : Nat) (x : (D_noonmarkref17_Edge × Unit)) : noonmarklaw17_edge_R := noonmarklaw17_edge_px n x
theorem noonmarklaw17_edge_ex (n : Nat) (rc : RC noonmarklaw17_edge_R) (x : (D_noonmarkref17_Edge × Unit)) : codeR rc Tryz.prog noonmarklaw17_edge_sp n (bodyOf Tryz.f16) noonmarklaw17_edge_an (start noonmarklaw17_edge_ps x (Func.ntmps Tryz.f16)) (kFin Tryz.prog noonmarklaw17_edge_rs Tryz.f16) = noonmarklaw17_edge_px n x := by kernel_rfl
theorem noonmarklaw17_edge_qx (n : Nat) (x : (D_noonmarkref17_Edge × Unit)) : codeK Tryz.prog noonmarklaw17_edge_sp n (bodyOf Tryz.f16) noonmarklaw17_edge_an (start noonmarklaw17_edge_ps x (Func.ntmps Tryz.f16)) (kFin Tryz.prog noonmarklaw17_edge_rs Tryz.f16) = noonmarklaw17_edge n x := by
  rw [codeK_R, noonmarklaw17_edge_ex]
  rfl
def noonmarklaw17_edge_spec : Sp := ⟨noonmarklaw17_edge_ps, noonmarklaw17_edge_rs, noonmarklaw17_edge⟩
theorem noonmarklaw17_edge_ok : SoundX Tryz.prog CX 16 (.f noonmarklaw17_edge_spec) := sound_of look_nil Tryz.func16 (by kernel_rfl) rfl noonmarklaw17_edge_an noonmarklaw17_edge_spec rfl rfl noonmarklaw17_edge_qx

/-! ### noonmark/noonmarklaw17.Own -/
abbrev noonmarklaw17_Own_ps : Ty := T_posix_spec
abbrev noonmarklaw17_Own_rs : Ty := T_posix_spec
def noonmarklaw17_Own_sp : Specs := look [(16, .f noonmarklaw17_edge_spec)]
def noonmarklaw17_Own_an : An := .o
abbrev noonmarklaw17_Own_R := Option D_posix_spec

def noonmarklaw17_Own_px (n : Nat) (x : D_posix_spec) : noonmarklaw17_Own_R :=
  ((noonmarklaw17_edge n (x.1.2.2.2.2.1, ()))).bind fun v1 =>
  ((noonmarklaw17_edge n (x.1.2.2.2.2.2.1, ()))).bind fun v2 =>
  some ((x.1.1, (x.1.2.1, (x.1.2.2.1, (x.1.2.2.2.1, (v1.1, (v2.1, ())))))), ())
def noonmarklaw17_Own (n : Nat) (x : D_posix_spec) : noonmarklaw17_Own_R := noonmarklaw17_Own_px n x
theorem noonmarklaw17_Own_ex (n : Nat) (rc : RC noonmarklaw17_Own_R) (x : D_posix_spec) : codeR rc Tryz.prog noonmarklaw17_Own_sp n (bodyOf Tryz.f7) noonmarklaw17_Own_an (start noonmarklaw17_Own_ps x (Func.ntmps Tryz.f7)) (kFin Tryz.prog noonmarklaw17_Own_rs Tryz.f7) = noonmarklaw17_Own_px n x := by kernel_rfl
theorem noonmarklaw17_Own_qx (n : Nat) (x : D_posix_spec) : codeK Tryz.prog noonmarklaw17_Own_sp n (bodyOf Tryz.f7) noonmarklaw17_Own_an (start noonmarklaw17_Own_ps x (Func.ntmps Tryz.f7)) (kFin Tryz.prog noonmarklaw17_Own_rs Tryz.f7) = noonmarklaw17_Own n x := by
  rw [codeK_R, noonmarklaw17_Own_ex]
  rfl
def noonmarklaw17_Own_spec : Sp := ⟨noonmarklaw17_Own_ps, noonmarklaw17_Own_rs, noonmarklaw17_Own⟩
theorem noonmarklaw17_Own_ok : SoundX Tryz.prog CX 7 (.f noonmarklaw17_Own_spec) := sound_of (look_cons noonmarklaw17_edge_ok look_nil) Tryz.func7 (by kernel_rfl) rfl noonmarklaw17_Own_an noonmarklaw17_Own_spec rfl rfl noonmarklaw17_Own_qx

/-! ### noonmark/noonmarklaw26.PosixSums -/
abbrev noonmarklaw26_PosixSums_ps : Ty := (.pair T_noonmarkref17_Spec (.pair (.int .i64) .unit))
abbrev noonmarklaw26_PosixSums_rs : Ty := (.pair .bool .unit)
def noonmarklaw26_PosixSums_sp : Specs := look [(10, .f footer_At_spec), (4, .f noonmarklaw26_light_spec), (5, .f aliveS), (6, .f posix_Hours_spec), (7, .f noonmarklaw17_Own_spec), (8, .o posix_Yearly_spec), (9, .f civil_Leap_spec)]
def noonmarklaw26_PosixSums_an : An := (.s .o (.s .o (.s .o (.s .o (.s .o (.s .o (.k [] [2,5,6,8,10] 2 .o (.k [] [2,5,6,8,10] 2 (.k [] [2,5,6,8,10,11] 2 .o (.b (.l [] [2,5,6,8,10,11] 2 (.s .o (.k [] [2,5,6,8,10,11] 2 (.b (.s .o (.s .o (.k [] [2,5,6,8,10,11,103] 2 .o .o)))) .o))))) .o))))))))
abbrev noonmarklaw26_PosixSums_R := Option (Bool × Unit)
noncomputable abbrev noonmarklaw26_PosixSums_c0 : Code := (cr (cr (cr (cr (cr (cr (cr (cr (bodyOf Tryz.f3)))))))))
noncomputable abbrev noonmarklaw26_PosixSums_c1 : Code := (cr (cr (cl (cl (cr (cl (cr (cr (cr (cr (cr (cr (cr (bodyOf Tryz.f3))))))))))))))
noncomputable abbrev noonmarklaw26_PosixSums_c2 : Code := (cr (cr (cr (cl (cl (cr (cl (cl (cr (cl (cr (cr (cr (cr (cr (cr (cr (bodyOf Tryz.f3))))))))))))))))))
noncomputable abbrev noonmarklaw26_PosixSums_c3 : Code := (cl (cl (cr (cl (cr (cr (cr (cr (cr (cr (cr (bodyOf Tryz.f3))))))))))))
noncomputable abbrev noonmarklaw26_PosixSums_c4 : Code := (cr (cl (cr (cr (cr (cr (cr (cr (cr (bodyOf Tryz.f3))))))))))
noncomputable abbrev noonmarklaw26_PosixSums_c5 : Code := (cr (cr (cr (cr (cr (cr (cr (bodyOf Tryz.f3))))))))
noncomputable abbrev noonmarklaw26_PosixSums_a0 : An := noonmarklaw26_PosixSums_an.right.right.right.right.right.right.right.right
noncomputable abbrev noonmarklaw26_PosixSums_a1 : An := noonmarklaw26_PosixSums_an.right.right.right.right.right.right.right.left.right.left.left.right.right
noncomputable abbrev noonmarklaw26_PosixSums_a2 : An := noonmarklaw26_PosixSums_an.right.right.right.right.right.right.right
noncomputable abbrev noonmarklaw26_PosixSums_a3 : An := noonmarklaw26_PosixSums_an.right.right.right.right.right.right.right.left.right.left
noncomputable abbrev noonmarklaw26_PosixSums_a4 : An := noonmarklaw26_PosixSums_an.right.right.right.right.right.right.right.left.right.left.left.right.left.left.right.right.right
noncomputable abbrev noonmarklaw26_PosixSums_a5 : An := noonmarklaw26_PosixSums_an.right.right.right.right.right.right.right.left.right.left.left.right
noncomputable abbrev noonmarklaw26_PosixSums_a6 : An := noonmarklaw26_PosixSums_an.right.right.right.right.right.right.right.left.right.left.left
noncomputable abbrev noonmarklaw26_PosixSums_a7 : An := noonmarklaw26_PosixSums_an.right.right.right.right.right.right.right.left.right
noncomputable abbrev noonmarklaw26_PosixSums_K0 : Ex → St → noonmarklaw26_PosixSums_R := (kFin Tryz.prog noonmarklaw26_PosixSums_rs Tryz.f3)
noncomputable abbrev noonmarklaw26_PosixSums_K1 (r3 k1 : St → noonmarklaw26_PosixSums_R) : Ex → St → noonmarklaw26_PosixSums_R := (kSeq r3 noonmarklaw26_PosixSums_a3 (kBlk 0 (kSeq k1 noonmarklaw26_PosixSums_a2 (kFin Tryz.prog noonmarklaw26_PosixSums_rs Tryz.f3))))
noncomputable abbrev noonmarklaw26_PosixSums_K2 (k4 r3 k1 : St → noonmarklaw26_PosixSums_R) : Ex → St → noonmarklaw26_PosixSums_R := (kBlk 1 (kSeq k4 noonmarklaw26_PosixSums_a5 (kSeq r3 noonmarklaw26_PosixSums_a3 (kBlk 0 (kSeq k1 noonmarklaw26_PosixSums_a2 (kFin Tryz.prog noonmarklaw26_PosixSums_rs Tryz.f3))))))
noncomputable abbrev noonmarklaw26_PosixSums_K3 (r3 k1 : St → noonmarklaw26_PosixSums_R) : Ex → St → noonmarklaw26_PosixSums_R := (kSeq r3 noonmarklaw26_PosixSums_a3 (kBlk 0 (kSeq k1 noonmarklaw26_PosixSums_a2 (kFin Tryz.prog noonmarklaw26_PosixSums_rs Tryz.f3))))
noncomputable abbrev noonmarklaw26_PosixSums_K4 (k1 : St → noonmarklaw26_PosixSums_R) : Ex → St → noonmarklaw26_PosixSums_R := (kSeq k1 noonmarklaw26_PosixSums_a2 (kFin Tryz.prog noonmarklaw26_PosixSums_rs Tryz.f3))
noncomputable abbrev noonmarklaw26_PosixSums_K5 : Ex → St → noonmarklaw26_PosixSums_R := (kFin Tryz.prog noonmarklaw26_PosixSums_rs Tryz.f3)
noncomputable abbrev noonmarklaw26_PosixSums_K6 : Ex → St → noonmarklaw26_PosixSums_R := (kFin Tryz.prog noonmarklaw26_PosixSums_rs Tryz.f3)
abbrev noonmarklaw26_PosixSums_t0 := Int × Int × Int × D_noonmarkref17_Spec × (List Int)
def noonmarklaw26_PosixSums_m0 (z : noonmarklaw26_PosixSums_t0) : St := ⟨(.junk :: .junk :: .v ⟨(.ptr 0 0 T_noonmarkref17_Spec), ()⟩ :: .junk :: .junk :: .v ⟨(.int .i64), z.1⟩ :: .v ⟨(.int .i64), z.2.1⟩ :: .junk :: .v ⟨(.sl 1 (.int .i64)), ()⟩ :: .junk :: .v ⟨(.int .i64), z.2.2.1⟩ :: jk 124 []), [some (.one ⟨T_noonmarkref17_Spec, z.2.2.2.1⟩), some (.arr 2 (.int .i64) z.2.2.2.2)]⟩
abbrev noonmarklaw26_PosixSums_t1 := Int × Int × Int × D_noonmarkref17_Spec × (List Int)
def noonmarklaw26_PosixSums_m1 (z : noonmarklaw26_PosixSums_t1) : St := ⟨(.junk :: .junk :: .v ⟨(.ptr 0 0 T_noonmarkref17_Spec), ()⟩ :: .junk :: .junk :: .v ⟨(.int .i64), z.1⟩ :: .v ⟨(.int .i64), z.2.1⟩ :: .junk :: .v ⟨(.sl 1 (.int .i64)), ()⟩ :: .junk :: .v ⟨(.int .i64), z.2.2.1⟩ :: jk 124 []), [some (.one ⟨T_noonmarkref17_Spec, z.2.2.2.1⟩), some (.arr 2 (.int .i64) z.2.2.2.2)]⟩
abbrev noonmarklaw26_PosixSums_t2 := Int × Int × Int × Int × D_noonmarkref17_Spec × (List Int)
def noonmarklaw26_PosixSums_m2 (z : noonmarklaw26_PosixSums_t2) : St := ⟨(.junk :: .junk :: .v ⟨(.ptr 0 0 T_noonmarkref17_Spec), ()⟩ :: .junk :: .junk :: .v ⟨(.int .i64), z.1⟩ :: .v ⟨(.int .i64), z.2.1⟩ :: .junk :: .v ⟨(.sl 1 (.int .i64)), ()⟩ :: .junk :: .v ⟨(.int .i64), z.2.2.1⟩ :: .v ⟨(.int .i64), z.2.2.2.1⟩ :: jk 123 []), [some (.one ⟨T_noonmarkref17_Spec, z.2.2.2.2.1⟩), some (.arr 2 (.int .i64) z.2.2.2.2.2)]⟩
abbrev noonmarklaw26_PosixSums_t3 := Int × Int × Int × Int × D_noonmarkref17_Spec × (List Int)
def noonmarklaw26_PosixSums_m3 (z : noonmarklaw26_PosixSums_t3) : St := ⟨(.junk :: .junk :: .v ⟨(.ptr 0 0 T_noonmarkref17_Spec), ()⟩ :: .junk :: .junk :: .v ⟨(.int .i64), z.1⟩ :: .v ⟨(.int .i64), z.2.1⟩ :: .junk :: .v ⟨(.sl 1 (.int .i64)), ()⟩ :: .junk :: .v ⟨(.int .i64), z.2.2.1⟩ :: .v ⟨(.int .i64), z.2.2.2.1⟩ :: jk 123 []), [some (.one ⟨T_noonmarkref17_Spec, z.2.2.2.2.1⟩), some (.arr 2 (.int .i64) z.2.2.2.2.2)]⟩
abbrev noonmarklaw26_PosixSums_t4 := Int × Int × Int × Int × D_noonmarkref17_Spec × (List Int)
def noonmarklaw26_PosixSums_m4 (z : noonmarklaw26_PosixSums_t4) : St := ⟨(.junk :: .junk :: .v ⟨(.ptr 0 0 T_noonmarkref17_Spec), ()⟩ :: .junk :: .junk :: .v ⟨(.int .i64), z.1⟩ :: .v ⟨(.int .i64), z.2.1⟩ :: .junk :: .v ⟨(.sl 1 (.int .i64)), ()⟩ :: .junk :: .v ⟨(.int .i64), z.2.2.1⟩ :: .v ⟨(.int .i64), z.2.2.2.1⟩ :: jk 123 []), [some (.one ⟨T_noonmarkref17_Spec, z.2.2.2.2.1⟩), some (.arr 2 (.int .i64) z.2.2.2.2.2)]⟩
abbrev noonmarklaw26_PosixSums_t5 := Int × Int × Int × Int × Bool × D_noonmarkref17_Spec × (List Int)
def noonmarklaw26_PosixSums_m5 (z : noonmarklaw26_PosixSums_t5) : St := ⟨(.junk :: .junk :: .v ⟨(.ptr 0 0 T_noonmarkref17_Spec), ()⟩ :: .junk :: .junk :: .v ⟨(.int .i64), z.1⟩ :: .v ⟨(.int .i64), z.2.1⟩ :: .junk :: .v ⟨(.sl 1 (.int .i64)), ()⟩ :: .junk :: .v ⟨(.int .i64), z.2.2.1⟩ :: .v ⟨(.int .i64), z.2.2.2.1⟩ :: jk 91 (.v ⟨.bool, z.2.2.2.2.1⟩ :: jk 31 [])), [some (.one ⟨T_noonmarkref17_Spec, z.2.2.2.2.2.1⟩), some (.arr 2 (.int .i64) z.2.2.2.2.2.2)]⟩
def noonmarklaw26_PosixSums_p1 (n : Nat) (z : noonmarklaw26_PosixSums_t1) : noonmarklaw26_PosixSums_R :=
  bif (decide (z.1 ≥ 0)) then
    bif (decide (z.2.1 ≥ 0)) then
      bif ((w64 (z.1 + z.2.1)) == (w64 (z.2.2.1 * 86400))) then
        bif (!(z.2.2.2.1.2.2.1.toList == (⟨#[]⟩ : ByteArray).toList)) then
          ((aliveF n ())).bind fun v25 =>
          some (v25.1, ())
        else
          bif ((List.length z.2.2.2.2 : Int) == 0) then
            bif (z.2.1 == 0) then
              ((aliveF n ())).bind fun v26 =>
              some (v26.1, ())
            else
              some (false, ())
          else
            some (false, ())
      else
        some (false, ())
    else
      some (false, ())
  else
    some (false, ())
def noonmarklaw26_PosixSums_s1 (n : Nat) (z : noonmarklaw26_PosixSums_t1) : noonmarklaw26_PosixSums_R := noonmarklaw26_PosixSums_p1 n z
theorem noonmarklaw26_PosixSums_e1 (n : Nat) (rc : RC noonmarklaw26_PosixSums_R) (z : noonmarklaw26_PosixSums_t1) : codeR rc Tryz.prog noonmarklaw26_PosixSums_sp n noonmarklaw26_PosixSums_c0 noonmarklaw26_PosixSums_a0 (noonmarklaw26_PosixSums_m1 z) noonmarklaw26_PosixSums_K0 = noonmarklaw26_PosixSums_p1 n z := by kernel_rfl
theorem noonmarklaw26_PosixSums_q1 (n : Nat) (z : noonmarklaw26_PosixSums_t1) : codeK Tryz.prog noonmarklaw26_PosixSums_sp n noonmarklaw26_PosixSums_c0 noonmarklaw26_PosixSums_a0 (noonmarklaw26_PosixSums_m1 z) noonmarklaw26_PosixSums_K0 = noonmarklaw26_PosixSums_s1 n z := by
  rw [codeK_R, noonmarklaw26_PosixSums_e1]
  rfl
def noonmarklaw26_PosixSums_p4 (_n : Nat) (_k1 : noonmarklaw26_PosixSums_t1 → noonmarklaw26_PosixSums_R) (r3 : noonmarklaw26_PosixSums_t3 → noonmarklaw26_PosixSums_R) (z : noonmarklaw26_PosixSums_t4) : noonmarklaw26_PosixSums_R :=
  r3 (z.1, z.2.1, z.2.2.1, (w64 (z.2.2.2.1 + 1)), z.2.2.2.2.1, z.2.2.2.2.2)
def noonmarklaw26_PosixSums_s4 (n : Nat) (k1 : noonmarklaw26_PosixSums_t1 → noonmarklaw26_PosixSums_R) (r3 : noonmarklaw26_PosixSums_t3 → noonmarklaw26_PosixSums_R) (z : noonmarklaw26_PosixSums_t4) : noonmarklaw26_PosixSums_R := noonmarklaw26_PosixSums_p4 n k1 r3 z
theorem noonmarklaw26_PosixSums_e4 (n : Nat) (k1 : St → noonmarklaw26_PosixSums_R) (r3 : St → noonmarklaw26_PosixSums_R) (rc : RC noonmarklaw26_PosixSums_R) (z : noonmarklaw26_PosixSums_t4) : codeR rc Tryz.prog noonmarklaw26_PosixSums_sp n noonmarklaw26_PosixSums_c1 noonmarklaw26_PosixSums_a1 (noonmarklaw26_PosixSums_m4 z) (noonmarklaw26_PosixSums_K1 r3 k1) = noonmarklaw26_PosixSums_p4 n (fun y => k1 (noonmarklaw26_PosixSums_m1 y)) (fun y => r3 (noonmarklaw26_PosixSums_m3 y)) z := by kernel_rfl
theorem noonmarklaw26_PosixSums_q4 (n : Nat) (k1 : St → noonmarklaw26_PosixSums_R) (r3 : St → noonmarklaw26_PosixSums_R) (z : noonmarklaw26_PosixSums_t4) : codeK Tryz.prog noonmarklaw26_PosixSums_sp n noonmarklaw26_PosixSums_c1 noonmarklaw26_PosixSums_a1 (noonmarklaw26_PosixSums_m4 z) (noonmarklaw26_PosixSums_K1 r3 k1) = noonmarklaw26_PosixSums_s4 n (fun y => k1 (noonmarklaw26_PosixSums_m1 y)) (fun y => r3 (noonmarklaw26_PosixSums_m3 y)) z := by
  rw [codeK_R, noonmarklaw26_PosixSums_e4]
  rfl
def noonmarklaw26_PosixSums_p5 (_n : Nat) (_k1 : noonmarklaw26_PosixSums_t1 → noonmarklaw26_PosixSums_R) (_r3 : noonmarklaw26_PosixSums_t3 → noonmarklaw26_PosixSums_R) (k4 : noonmarklaw26_PosixSums_t4 → noonmarklaw26_PosixSums_R) (z : noonmarklaw26_PosixSums_t5) : noonmarklaw26_PosixSums_R :=
  bif z.2.2.2.2.1 then
    some (false, ())
  else
    k4 (z.1, z.2.1, z.2.2.1, z.2.2.2.1, z.2.2.2.2.2.1, z.2.2.2.2.2.2)
def noonmarklaw26_PosixSums_s5 (n : Nat) (k1 : noonmarklaw26_PosixSums_t1 → noonmarklaw26_PosixSums_R) (r3 : noonmarklaw26_PosixSums_t3 → noonmarklaw26_PosixSums_R) (k4 : noonmarklaw26_PosixSums_t4 → noonmarklaw26_PosixSums_R) (z : noonmarklaw26_PosixSums_t5) : noonmarklaw26_PosixSums_R := noonmarklaw26_PosixSums_p5 n k1 r3 k4 z
theorem noonmarklaw26_PosixSums_e5 (n : Nat) (k1 : St → noonmarklaw26_PosixSums_R) (r3 : St → noonmarklaw26_PosixSums_R) (k4 : St → noonmarklaw26_PosixSums_R) (rc : RC noonmarklaw26_PosixSums_R) (z : noonmarklaw26_PosixSums_t5) : codeR rc Tryz.prog noonmarklaw26_PosixSums_sp n noonmarklaw26_PosixSums_c2 noonmarklaw26_PosixSums_a4 (noonmarklaw26_PosixSums_m5 z) (noonmarklaw26_PosixSums_K2 k4 r3 k1) = noonmarklaw26_PosixSums_p5 n (fun y => k1 (noonmarklaw26_PosixSums_m1 y)) (fun y => r3 (noonmarklaw26_PosixSums_m3 y)) (fun y => k4 (noonmarklaw26_PosixSums_m4 y)) z := by kernel_rfl
theorem noonmarklaw26_PosixSums_q5 (n : Nat) (k1 : St → noonmarklaw26_PosixSums_R) (r3 : St → noonmarklaw26_PosixSums_R) (k4 : St → noonmarklaw26_PosixSums_R) (z : noonmarklaw26_PosixSums_t5) : codeK Tryz.prog noonmarklaw26_PosixSums_sp n noonmarklaw26_PosixSums_c2 noonmarklaw26_PosixSums_a4 (noonmarklaw26_PosixSums_m5 z) (noonmarklaw26_PosixSums_K2 k4 r3 k1) = noonmarklaw26_PosixSums_s5 n (fun y => k1 (noonmarklaw26_PosixSums_m1 y)) (fun y => r3 (noonmarklaw26_PosixSums_m3 y)) (fun y => k4 (noonmarklaw26_PosixSums_m4 y)) z := by
  rw [codeK_R, noonmarklaw26_PosixSums_e5]
  rfl
def noonmarklaw26_PosixSums_p3 (n : Nat) (k1 : noonmarklaw26_PosixSums_t1 → noonmarklaw26_PosixSums_R) (_r3 : noonmarklaw26_PosixSums_t3 → noonmarklaw26_PosixSums_R) (k4 : noonmarklaw26_PosixSums_t4 → noonmarklaw26_PosixSums_R) (k5 : noonmarklaw26_PosixSums_t5 → noonmarklaw26_PosixSums_R) (z : noonmarklaw26_PosixSums_t3) : noonmarklaw26_PosixSums_R :=
  bif (decide (z.2.2.2.1 < (List.length z.2.2.2.2.2 : Int))) then
    ((noonmarklaw17_Own n (z.2.2.2.2.1, ()))).bind fun v9 =>
    bif decide (0 ≤ z.2.2.2.1 ∧ z.2.2.2.1 < (List.length z.2.2.2.2.2 : Int)) then
      ((z.2.2.2.2.2[(Int.toNat z.2.2.2.1)]?)).bind fun e11 =>
      ((footer_At n (v9.1, ((w64 (e11 - 1)), ())))).bind fun v13 =>
      ((noonmarklaw17_Own n (z.2.2.2.2.1, ()))).bind fun v14 =>
      bif decide (0 ≤ z.2.2.2.1 ∧ z.2.2.2.1 < (List.length z.2.2.2.2.2 : Int)) then
        ((z.2.2.2.2.2[(Int.toNat z.2.2.2.1)]?)).bind fun e16 =>
        ((footer_At n (v14.1, (e16, ())))).bind fun v17 =>
        bif (eqD T_api_Local v13.1 v17.1) then
          k5 (z.1, z.2.1, z.2.2.1, z.2.2.2.1, true, z.2.2.2.2.1, z.2.2.2.2.2)
        else
          bif (decide (z.2.2.2.1 > 0)) then
            let t18 := w64 (z.2.2.2.1 - 1)
            bif decide (0 ≤ t18 ∧ t18 < (List.length z.2.2.2.2.2 : Int)) then
              ((z.2.2.2.2.2[(Int.toNat t18)]?)).bind fun e20 =>
              bif decide (0 ≤ z.2.2.2.1 ∧ z.2.2.2.1 < (List.length z.2.2.2.2.2 : Int)) then
                ((z.2.2.2.2.2[(Int.toNat z.2.2.2.1)]?)).bind fun e22 =>
                k5 (z.1, z.2.1, z.2.2.1, z.2.2.2.1, (decide (e20 ≥ e22)), z.2.2.2.2.1, z.2.2.2.2.2)
              else none
            else none
          else
            k5 (z.1, z.2.1, z.2.2.1, z.2.2.2.1, false, z.2.2.2.2.1, z.2.2.2.2.2)
      else none
    else none
  else
    k1 (z.1, z.2.1, z.2.2.1, z.2.2.2.2.1, z.2.2.2.2.2)
def noonmarklaw26_PosixSums_s3 (n : Nat) (k1 : noonmarklaw26_PosixSums_t1 → noonmarklaw26_PosixSums_R) (r3 : noonmarklaw26_PosixSums_t3 → noonmarklaw26_PosixSums_R) (z : noonmarklaw26_PosixSums_t3) : noonmarklaw26_PosixSums_R := noonmarklaw26_PosixSums_p3 n k1 r3 (noonmarklaw26_PosixSums_s4 n k1 r3) (noonmarklaw26_PosixSums_s5 n k1 r3 (noonmarklaw26_PosixSums_s4 n k1 r3)) z
theorem noonmarklaw26_PosixSums_e3 (n : Nat) (k1 : St → noonmarklaw26_PosixSums_R) (r3 : St → noonmarklaw26_PosixSums_R) (rc : RC noonmarklaw26_PosixSums_R) (z : noonmarklaw26_PosixSums_t3) : codeR rc Tryz.prog noonmarklaw26_PosixSums_sp n noonmarklaw26_PosixSums_c3 noonmarklaw26_PosixSums_a6 (noonmarklaw26_PosixSums_m3 z) (noonmarklaw26_PosixSums_K3 r3 k1) = noonmarklaw26_PosixSums_p3 n (fun y => k1 (noonmarklaw26_PosixSums_m1 y)) (fun y => r3 (noonmarklaw26_PosixSums_m3 y)) (fun y => rc noonmarklaw26_PosixSums_c1 noonmarklaw26_PosixSums_a1 (noonmarklaw26_PosixSums_m4 y) (noonmarklaw26_PosixSums_K1 r3 k1)) (fun y => rc noonmarklaw26_PosixSums_c2 noonmarklaw26_PosixSums_a4 (noonmarklaw26_PosixSums_m5 y) (noonmarklaw26_PosixSums_K2 (fun st => rc noonmarklaw26_PosixSums_c1 noonmarklaw26_PosixSums_a1 st (noonmarklaw26_PosixSums_K1 r3 k1)) r3 k1)) z := by kernel_rfl
theorem noonmarklaw26_PosixSums_q3 (n : Nat) (k1 : St → noonmarklaw26_PosixSums_R) (r3 : St → noonmarklaw26_PosixSums_R) (z : noonmarklaw26_PosixSums_t3) : codeK Tryz.prog noonmarklaw26_PosixSums_sp n noonmarklaw26_PosixSums_c3 noonmarklaw26_PosixSums_a6 (noonmarklaw26_PosixSums_m3 z) (noonmarklaw26_PosixSums_K3 r3 k1) = noonmarklaw26_PosixSums_s3 n (fun y => k1 (noonmarklaw26_PosixSums_m1 y)) (fun y => r3 (noonmarklaw26_PosixSums_m3 y)) z := by
  have h4 : (fun y => codeK Tryz.prog noonmarklaw26_PosixSums_sp n noonmarklaw26_PosixSums_c1 noonmarklaw26_PosixSums_a1 (noonmarklaw26_PosixSums_m4 y) (noonmarklaw26_PosixSums_K1 r3 k1)) = (noonmarklaw26_PosixSums_s4 n (fun y => k1 (noonmarklaw26_PosixSums_m1 y)) (fun y => r3 (noonmarklaw26_PosixSums_m3 y))) := funext fun y => by
    have := noonmarklaw26_PosixSums_q4 n k1 r3 y
    exact this
  have h5 : (fun y => codeK Tryz.prog noonmarklaw26_PosixSums_sp n noonmarklaw26_PosixSums_c2 noonmarklaw26_PosixSums_a4 (noonmarklaw26_PosixSums_m5 y) (noonmarklaw26_PosixSums_K2 (fun st => codeK Tryz.prog noonmarklaw26_PosixSums_sp n noonmarklaw26_PosixSums_c1 noonmarklaw26_PosixSums_a1 st (noonmarklaw26_PosixSums_K1 r3 k1)) r3 k1)) = (noonmarklaw26_PosixSums_s5 n (fun y => k1 (noonmarklaw26_PosixSums_m1 y)) (fun y => r3 (noonmarklaw26_PosixSums_m3 y)) (noonmarklaw26_PosixSums_s4 n (fun y => k1 (noonmarklaw26_PosixSums_m1 y)) (fun y => r3 (noonmarklaw26_PosixSums_m3 y)))) := funext fun y => by
    have := noonmarklaw26_PosixSums_q5 n k1 r3 (fun st => codeK Tryz.prog noonmarklaw26_PosixSums_sp n noonmarklaw26_PosixSums_c1 noonmarklaw26_PosixSums_a1 st (noonmarklaw26_PosixSums_K1 r3 k1)) y
    rw [h4] at this; exact this
  rw [codeK_R, noonmarklaw26_PosixSums_e3]
  rw [h4]
  rw [h5]
  rfl
def noonmarklaw26_PosixSums_s2 (n : Nat) (k1 : noonmarklaw26_PosixSums_t1 → noonmarklaw26_PosixSums_R) (z : noonmarklaw26_PosixSums_t2) : noonmarklaw26_PosixSums_R :=
  rounds (fun r3 x' => noonmarklaw26_PosixSums_s3 n k1 r3 x') n (z.1, z.2.1, z.2.2.1, z.2.2.2.1, z.2.2.2.2.1, z.2.2.2.2.2)
theorem noonmarklaw26_PosixSums_q2 (n : Nat) (k1 : St → noonmarklaw26_PosixSums_R) (z : noonmarklaw26_PosixSums_t2) : codeK Tryz.prog noonmarklaw26_PosixSums_sp n noonmarklaw26_PosixSums_c4 noonmarklaw26_PosixSums_a7 (noonmarklaw26_PosixSums_m2 z) (noonmarklaw26_PosixSums_K4 k1) = noonmarklaw26_PosixSums_s2 n (fun y => k1 (noonmarklaw26_PosixSums_m1 y)) z :=
  Eq.trans (b := rounds (fun r3 st => codeK Tryz.prog noonmarklaw26_PosixSums_sp n noonmarklaw26_PosixSums_c3 noonmarklaw26_PosixSums_a6 st (noonmarklaw26_PosixSums_K3 r3 k1)) n (noonmarklaw26_PosixSums_m3 (z.1, z.2.1, z.2.2.1, z.2.2.2.1, z.2.2.2.2.1, z.2.2.2.2.2))) (by kernel_rfl) (rounds_mk noonmarklaw26_PosixSums_m3 (fun r3 x' => by
    have := (noonmarklaw26_PosixSums_q3 n k1 r3 x')
    exact this) n _)
def noonmarklaw26_PosixSums_p0 (_n : Nat) (k1 : noonmarklaw26_PosixSums_t1 → noonmarklaw26_PosixSums_R) (k2 : noonmarklaw26_PosixSums_t2 → noonmarklaw26_PosixSums_R) (z : noonmarklaw26_PosixSums_t0) : noonmarklaw26_PosixSums_R :=
  k2 (z.1, z.2.1, z.2.2.1, (0 : Int), z.2.2.2.1, z.2.2.2.2)
def noonmarklaw26_PosixSums_s0 (n : Nat) (z : noonmarklaw26_PosixSums_t0) : noonmarklaw26_PosixSums_R := noonmarklaw26_PosixSums_p0 n (noonmarklaw26_PosixSums_s1 n) (noonmarklaw26_PosixSums_s2 n (noonmarklaw26_PosixSums_s1 n)) z
theorem noonmarklaw26_PosixSums_e0 (n : Nat) (rc : RC noonmarklaw26_PosixSums_R) (z : noonmarklaw26_PosixSums_t0) : codeR rc Tryz.prog noonmarklaw26_PosixSums_sp n noonmarklaw26_PosixSums_c5 noonmarklaw26_PosixSums_a2 (noonmarklaw26_PosixSums_m0 z) noonmarklaw26_PosixSums_K5 = noonmarklaw26_PosixSums_p0 n (fun y => rc noonmarklaw26_PosixSums_c0 noonmarklaw26_PosixSums_a0 (noonmarklaw26_PosixSums_m1 y) noonmarklaw26_PosixSums_K0) (fun y => rc noonmarklaw26_PosixSums_c4 noonmarklaw26_PosixSums_a7 (noonmarklaw26_PosixSums_m2 y) (noonmarklaw26_PosixSums_K4 (fun st => rc noonmarklaw26_PosixSums_c0 noonmarklaw26_PosixSums_a0 st noonmarklaw26_PosixSums_K0))) z := by kernel_rfl
theorem noonmarklaw26_PosixSums_q0 (n : Nat) (z : noonmarklaw26_PosixSums_t0) : codeK Tryz.prog noonmarklaw26_PosixSums_sp n noonmarklaw26_PosixSums_c5 noonmarklaw26_PosixSums_a2 (noonmarklaw26_PosixSums_m0 z) noonmarklaw26_PosixSums_K5 = noonmarklaw26_PosixSums_s0 n z := by
  have h1 : (fun y => codeK Tryz.prog noonmarklaw26_PosixSums_sp n noonmarklaw26_PosixSums_c0 noonmarklaw26_PosixSums_a0 (noonmarklaw26_PosixSums_m1 y) noonmarklaw26_PosixSums_K0) = (noonmarklaw26_PosixSums_s1 n) := funext fun y => by
    have := noonmarklaw26_PosixSums_q1 n  y
    exact this
  have h2 : (fun y => codeK Tryz.prog noonmarklaw26_PosixSums_sp n noonmarklaw26_PosixSums_c4 noonmarklaw26_PosixSums_a7 (noonmarklaw26_PosixSums_m2 y) (noonmarklaw26_PosixSums_K4 (fun st => codeK Tryz.prog noonmarklaw26_PosixSums_sp n noonmarklaw26_PosixSums_c0 noonmarklaw26_PosixSums_a0 st noonmarklaw26_PosixSums_K0))) = (noonmarklaw26_PosixSums_s2 n (noonmarklaw26_PosixSums_s1 n)) := funext fun y => by
    have := noonmarklaw26_PosixSums_q2 n (fun st => codeK Tryz.prog noonmarklaw26_PosixSums_sp n noonmarklaw26_PosixSums_c0 noonmarklaw26_PosixSums_a0 st noonmarklaw26_PosixSums_K0) y
    rw [h1] at this; exact this
  rw [codeK_R, noonmarklaw26_PosixSums_e0]
  rw [h1]
  rw [h2]
  rfl
def noonmarklaw26_PosixSums_px (n : Nat) (k0 : noonmarklaw26_PosixSums_t0 → noonmarklaw26_PosixSums_R) (x : (D_noonmarkref17_Spec × (Int × Unit))) : noonmarklaw26_PosixSums_R :=
  ((noonmarklaw26_light n (x.1, ()))).bind fun v1 =>
  bif (!v1.1) then
    ((aliveF n ())).bind fun v2 =>
    some (v2.1, ())
  else
    ((noonmarklaw17_Own n (x.1, ()))).bind fun v3 =>
    ((posix_Hours n (v3.1, (x.2.1, ())))).bind fun v4 =>
    ((noonmarklaw17_Own n (x.1, ()))).bind fun v5 =>
    ((posix_Yearly n (v5.1, (x.2.1, ())))).bind fun v6 =>
    bif (v4.2.2.1 != 0) then
      bif (v6.2.1 == v4.2.2.1) then
        bif (v4.1 == 0) then
          bif (v4.2.1 == 0) then
            bif ((List.length v6.1 : Int) == 0) then
              ((aliveF n ())).bind fun v7 =>
              some (v7.1, ())
            else
              some (false, ())
          else
            some (false, ())
        else
          some (false, ())
      else
        some (false, ())
    else
      ((civil_Leap n (x.2.1, ()))).bind fun v8 =>
      bif v8.1 then
        k0 (v4.1, v4.2.1, (366 : Int), x.1, v6.1)
      else
        k0 (v4.1, v4.2.1, (365 : Int), x.1, v6.1)
def noonmarklaw26_PosixSums (n : Nat) (x : (D_noonmarkref17_Spec × (Int × Unit))) : noonmarklaw26_PosixSums_R := noonmarklaw26_PosixSums_px n (noonmarklaw26_PosixSums_s0 n) x
theorem noonmarklaw26_PosixSums_ex (n : Nat) (rc : RC noonmarklaw26_PosixSums_R) (x : (D_noonmarkref17_Spec × (Int × Unit))) : codeR rc Tryz.prog noonmarklaw26_PosixSums_sp n (bodyOf Tryz.f3) noonmarklaw26_PosixSums_an (start noonmarklaw26_PosixSums_ps x (Func.ntmps Tryz.f3)) noonmarklaw26_PosixSums_K6 = noonmarklaw26_PosixSums_px n (fun y => rc noonmarklaw26_PosixSums_c5 noonmarklaw26_PosixSums_a2 (noonmarklaw26_PosixSums_m0 y) noonmarklaw26_PosixSums_K5) x := by kernel_rfl
theorem noonmarklaw26_PosixSums_qx (n : Nat) (x : (D_noonmarkref17_Spec × (Int × Unit))) : codeK Tryz.prog noonmarklaw26_PosixSums_sp n (bodyOf Tryz.f3) noonmarklaw26_PosixSums_an (start noonmarklaw26_PosixSums_ps x (Func.ntmps Tryz.f3)) noonmarklaw26_PosixSums_K6 = noonmarklaw26_PosixSums n x := by
  have h0 : (fun y => codeK Tryz.prog noonmarklaw26_PosixSums_sp n noonmarklaw26_PosixSums_c5 noonmarklaw26_PosixSums_a2 (noonmarklaw26_PosixSums_m0 y) noonmarklaw26_PosixSums_K5) = (noonmarklaw26_PosixSums_s0 n) := funext fun y => by
    have := noonmarklaw26_PosixSums_q0 n  y
    exact this
  rw [codeK_R, noonmarklaw26_PosixSums_ex]
  rw [h0]
  rfl
def noonmarklaw26_PosixSums_spec : Sp := ⟨noonmarklaw26_PosixSums_ps, noonmarklaw26_PosixSums_rs, noonmarklaw26_PosixSums⟩
theorem noonmarklaw26_PosixSums_ok : SoundX Tryz.prog CX 3 (.f noonmarklaw26_PosixSums_spec) := sound_of (look_cons footer_At_ok (look_cons noonmarklaw26_light_ok (look_cons alive_okX (look_cons posix_Hours_ok (look_cons noonmarklaw17_Own_ok (look_cons posix_Yearly_ok (look_cons civil_Leap_ok look_nil))))))) Tryz.func3 (by kernel_rfl) rfl noonmarklaw26_PosixSums_an noonmarklaw26_PosixSums_spec rfl rfl noonmarklaw26_PosixSums_qx
end Go.Proofs.YtedenojeljjnaaaGreatDoorPi
