import Derived.Test.YtedenojeljjnaaaGreatDoorPiC
import Derived.Test.YtedenojeljjnaaaGreatDoorProg
import Derived.Test.YtedenojeljjnaaaGreatDoorBld
set_option linter.unusedVariables false
set_option maxRecDepth 100000
set_option maxHeartbeats 4000000
namespace Go.Proofs.YtedenojeljjnaaaGreatDoorPi
open Go Go.Proofs
def CX : Ctx := ⟨fun _ => True, fun _ _ => trivial, true⟩
abbrev T_footer_reader : Ty := (.pair .str .unit)
abbrev T_api_At : Ty := (.pair (.int .i64) (.pair (.int .i64) .unit))
abbrev T_api_Day : Ty := (.pair (.int .i64) T_api_At)
abbrev T_footer_Edge : Ty := (.pair .bool (.pair (.int .i64) T_api_Day))
abbrev T_api_Until : Ty := (.pair .bool (.pair (.int .i64) (.pair (.int .i64) (.pair T_api_Day (.pair T_api_At .unit)))))
abbrev T_api_Rule : Ty := (.pair .str (.pair (.int .i64) (.pair (.int .i64) (.pair (.int .i64) (.pair T_api_Day (.pair T_api_At (.pair (.int .i64) T_footer_reader)))))))
abbrev T_footer_Spec : Ty := (.pair .str (.pair (.int .i64) (.pair .str (.pair (.int .i64) (.pair T_footer_Edge (.pair T_footer_Edge .unit))))))
abbrev T_api_Era : Ty := (.pair (.int .i64) (.pair (.int .i64) (.pair (.int .i64) (.pair .str (.pair .str (.pair T_api_Until .unit))))))
abbrev T_posix_spec : Ty := (.pair T_footer_Spec .unit)
noncomputable def Sal_footer_Parse_1 : Sp := intF Tryz.prog spNil Tryz.f24 .unit .unit
theorem Sal_footer_Parse_1_ok : SoundX Tryz.prog CX 24 (.f Sal_footer_Parse_1) := sound_int spNil_ok Tryz.func24 (by kernel_rfl) rfl .unit .unit rfl rfl
noncomputable def Sal_sp0 : Specs := spCons 24 (.f Sal_footer_Parse_1) spNil
theorem Sal_sp0_ok : ∀ g s, Sal_sp0 g = some s → SoundX Tryz.prog CX g s := spCons_ok Sal_footer_Parse_1_ok spNil_ok
noncomputable def Sal_internal_stringslite_HasPrefix : Sp := intF Tryz.prog Sal_sp0 Tryz.f66 (.pair .str (.pair .str .unit)) (.pair .bool .unit)
theorem Sal_internal_stringslite_HasPrefix_ok : SoundX Tryz.prog CX 66 (.f Sal_internal_stringslite_HasPrefix) := sound_int Sal_sp0_ok Tryz.func66 (by kernel_rfl) rfl (.pair .str (.pair .str .unit)) (.pair .bool .unit) rfl rfl
noncomputable def Sal_sp1 : Specs := spCons 66 (.f Sal_internal_stringslite_HasPrefix) Sal_sp0
theorem Sal_sp1_ok : ∀ g s, Sal_sp1 g = some s → SoundX Tryz.prog CX g s := spCons_ok Sal_internal_stringslite_HasPrefix_ok Sal_sp0_ok
noncomputable def Sal_internal_stringslite_CutPrefix : Sp := intF Tryz.prog Sal_sp1 Tryz.f81 (.pair .str (.pair .str .unit)) (.pair .str (.pair .bool .unit))
theorem Sal_internal_stringslite_CutPrefix_ok : SoundX Tryz.prog CX 81 (.f Sal_internal_stringslite_CutPrefix) := sound_int Sal_sp1_ok Tryz.func81 (by kernel_rfl) rfl (.pair .str (.pair .str .unit)) (.pair .str (.pair .bool .unit)) rfl rfl
noncomputable def Sal_sp2 : Specs := spCons 81 (.f Sal_internal_stringslite_CutPrefix) Sal_sp1
theorem Sal_sp2_ok : ∀ g s, Sal_sp2 g = some s → SoundX Tryz.prog CX g s := spCons_ok Sal_internal_stringslite_CutPrefix_ok Sal_sp1_ok
noncomputable def Sal_strings_CutPrefix : Sp := intF Tryz.prog Sal_sp2 Tryz.f76 (.pair .str (.pair .str .unit)) (.pair .str (.pair .bool .unit))
theorem Sal_strings_CutPrefix_ok : SoundX Tryz.prog CX 76 (.f Sal_strings_CutPrefix) := sound_int Sal_sp2_ok Tryz.func76 (by kernel_rfl) rfl (.pair .str (.pair .str .unit)) (.pair .str (.pair .bool .unit)) rfl rfl
noncomputable def Sal_sp3 : Specs := spCons 76 (.f Sal_strings_CutPrefix) Sal_sp2
theorem Sal_sp3_ok : ∀ g s, Sal_sp3 g = some s → SoundX Tryz.prog CX g s := spCons_ok Sal_strings_CutPrefix_ok Sal_sp2_ok
noncomputable def Sal_p_footer_reader_skip : SpM := intM Tryz.prog Sal_sp3 Tryz.f61 [none] (.pair T_footer_reader .unit) (.pair (.ptr 0 0 T_footer_reader) T_footer_reader) (.pair .bool .unit)
theorem Sal_p_footer_reader_skip_ok : SoundX Tryz.prog CX 61 (.m [Sal_p_footer_reader_skip]) := sound_intM Sal_sp3_ok Tryz.func61 (by kernel_rfl) rfl [none] (.pair T_footer_reader .unit) (.pair (.ptr 0 0 T_footer_reader) T_footer_reader) (.pair .bool .unit) rfl
noncomputable def Sal_sp4 : Specs := spCons 61 (.m [Sal_p_footer_reader_skip]) Sal_sp3
theorem Sal_sp4_ok : ∀ g s, Sal_sp4 g = some s → SoundX Tryz.prog CX g s := spCons_ok Sal_p_footer_reader_skip_ok Sal_sp3_ok
noncomputable def Sal_internal_stringslite_IndexByte : Sp := intF Tryz.prog Sal_sp4 Tryz.f85 (.pair .str (.pair (.int .u8) .unit)) (.pair (.int .i64) .unit)
theorem Sal_internal_stringslite_IndexByte_ok : SoundX Tryz.prog CX 85 (.f Sal_internal_stringslite_IndexByte) := sound_int Sal_sp4_ok Tryz.func85 (by kernel_rfl) rfl (.pair .str (.pair (.int .u8) .unit)) (.pair (.int .i64) .unit) rfl rfl
noncomputable def Sal_sp5 : Specs := spCons 85 (.f Sal_internal_stringslite_IndexByte) Sal_sp4
theorem Sal_sp5_ok : ∀ g s, Sal_sp5 g = some s → SoundX Tryz.prog CX g s := spCons_ok Sal_internal_stringslite_IndexByte_ok Sal_sp4_ok
noncomputable def Sal_internal_bytealg_Cutover : Sp := intF Tryz.prog Sal_sp5 Tryz.f87 (.pair (.int .i64) .unit) (.pair (.int .i64) .unit)
theorem Sal_internal_bytealg_Cutover_ok : SoundX Tryz.prog CX 87 (.f Sal_internal_bytealg_Cutover) := sound_int Sal_sp5_ok Tryz.func87 (by kernel_rfl) rfl (.pair (.int .i64) .unit) (.pair (.int .i64) .unit) rfl rfl
noncomputable def Sal_sp6 : Specs := spCons 87 (.f Sal_internal_bytealg_Cutover) Sal_sp5
theorem Sal_sp6_ok : ∀ g s, Sal_sp6 g = some s → SoundX Tryz.prog CX g s := spCons_ok Sal_internal_bytealg_Cutover_ok Sal_sp5_ok
noncomputable def Sal_internal_bytealg_hashStr_string : Sp := intF Tryz.prog Sal_sp6 Tryz.f95 T_footer_reader (.pair (.int .u32) (.pair (.int .u32) .unit))
theorem Sal_internal_bytealg_hashStr_string_ok : SoundX Tryz.prog CX 95 (.f Sal_internal_bytealg_hashStr_string) := sound_int Sal_sp6_ok Tryz.func95 (by kernel_rfl) rfl T_footer_reader (.pair (.int .u32) (.pair (.int .u32) .unit)) rfl rfl
noncomputable def Sal_sp7 : Specs := spCons 95 (.f Sal_internal_bytealg_hashStr_string) Sal_sp6
theorem Sal_sp7_ok : ∀ g s, Sal_sp7 g = some s → SoundX Tryz.prog CX g s := spCons_ok Sal_internal_bytealg_hashStr_string_ok Sal_sp6_ok
noncomputable def Sal_internal_bytealg_IndexRabinKarp_string : Sp := intF Tryz.prog Sal_sp7 Tryz.f88 (.pair .str T_footer_reader) (.pair (.int .i64) .unit)
theorem Sal_internal_bytealg_IndexRabinKarp_string_ok : SoundX Tryz.prog CX 88 (.f Sal_internal_bytealg_IndexRabinKarp_string) := sound_int Sal_sp7_ok Tryz.func88 (by kernel_rfl) rfl (.pair .str T_footer_reader) (.pair (.int .i64) .unit) rfl rfl
noncomputable def Sal_sp8 : Specs := spCons 88 (.f Sal_internal_bytealg_IndexRabinKarp_string) Sal_sp7
theorem Sal_sp8_ok : ∀ g s, Sal_sp8 g = some s → SoundX Tryz.prog CX g s := spCons_ok Sal_internal_bytealg_IndexRabinKarp_string_ok Sal_sp7_ok
noncomputable def Sal_internal_stringslite_Index : Sp := intF Tryz.prog Sal_sp8 Tryz.f82 (.pair .str T_footer_reader) (.pair (.int .i64) .unit)
theorem Sal_internal_stringslite_Index_ok : SoundX Tryz.prog CX 82 (.f Sal_internal_stringslite_Index) := sound_int Sal_sp8_ok Tryz.func82 (by kernel_rfl) rfl (.pair .str T_footer_reader) (.pair (.int .i64) .unit) rfl rfl
noncomputable def Sal_sp9 : Specs := spCons 82 (.f Sal_internal_stringslite_Index) Sal_sp8
theorem Sal_sp9_ok : ∀ g s, Sal_sp9 g = some s → SoundX Tryz.prog CX g s := spCons_ok Sal_internal_stringslite_Index_ok Sal_sp8_ok
noncomputable def Sal_internal_stringslite_Cut : Sp := intF Tryz.prog Sal_sp9 Tryz.f77 (.pair .str T_footer_reader) (.pair .str (.pair .str (.pair .bool .unit)))
theorem Sal_internal_stringslite_Cut_ok : SoundX Tryz.prog CX 77 (.f Sal_internal_stringslite_Cut) := sound_int Sal_sp9_ok Tryz.func77 (by kernel_rfl) rfl (.pair .str T_footer_reader) (.pair .str (.pair .str (.pair .bool .unit))) rfl rfl
noncomputable def Sal_sp10 : Specs := spCons 77 (.f Sal_internal_stringslite_Cut) Sal_sp9
theorem Sal_sp10_ok : ∀ g s, Sal_sp10 g = some s → SoundX Tryz.prog CX g s := spCons_ok Sal_internal_stringslite_Cut_ok Sal_sp9_ok
noncomputable def Sal_strings_Cut : Sp := intF Tryz.prog Sal_sp10 Tryz.f62 (.pair .str T_footer_reader) (.pair .str (.pair .str (.pair .bool .unit)))
theorem Sal_strings_Cut_ok : SoundX Tryz.prog CX 62 (.f Sal_strings_Cut) := sound_int Sal_sp10_ok Tryz.func62 (by kernel_rfl) rfl (.pair .str T_footer_reader) (.pair .str (.pair .str (.pair .bool .unit))) rfl rfl
noncomputable def Sal_sp11 : Specs := spCons 62 (.f Sal_strings_Cut) Sal_sp10
theorem Sal_sp11_ok : ∀ g s, Sal_sp11 g = some s → SoundX Tryz.prog CX g s := spCons_ok Sal_strings_Cut_ok Sal_sp10_ok
noncomputable def Sal_p_footer_reader_must : SpM := intM Tryz.prog Sal_sp11 Tryz.f63 [none] (.pair T_footer_reader .unit) (.pair (.ptr 0 0 T_footer_reader) (.pair .bool .unit)) .unit
theorem Sal_p_footer_reader_must_ok : SoundX Tryz.prog CX 63 (.m [Sal_p_footer_reader_must]) := sound_intM Sal_sp11_ok Tryz.func63 (by kernel_rfl) rfl [none] (.pair T_footer_reader .unit) (.pair (.ptr 0 0 T_footer_reader) (.pair .bool .unit)) .unit rfl
noncomputable def Sal_sp12 : Specs := spCons 63 (.m [Sal_p_footer_reader_must]) Sal_sp11
theorem Sal_sp12_ok : ∀ g s, Sal_sp12 g = some s → SoundX Tryz.prog CX g s := spCons_ok Sal_p_footer_reader_must_ok Sal_sp11_ok
noncomputable def Sal_footer_letters : Sp := intF Tryz.prog Sal_sp12 Tryz.f64 T_footer_reader (.pair .bool .unit)
theorem Sal_footer_letters_ok : SoundX Tryz.prog CX 64 (.f Sal_footer_letters) := sound_int Sal_sp12_ok Tryz.func64 (by kernel_rfl) rfl T_footer_reader (.pair .bool .unit) rfl rfl
noncomputable def Sal_sp13 : Specs := spCons 64 (.f Sal_footer_letters) Sal_sp12
theorem Sal_sp13_ok : ∀ g s, Sal_sp13 g = some s → SoundX Tryz.prog CX g s := spCons_ok Sal_footer_letters_ok Sal_sp12_ok
noncomputable def Sal_p_footer_reader_name : SpM := intM Tryz.prog Sal_sp13 Tryz.f39 [none] (.pair T_footer_reader .unit) (.pair (.ptr 0 0 T_footer_reader) .unit) T_footer_reader
theorem Sal_p_footer_reader_name_ok : SoundX Tryz.prog CX 39 (.m [Sal_p_footer_reader_name]) := sound_intM Sal_sp13_ok Tryz.func39 (by kernel_rfl) rfl [none] (.pair T_footer_reader .unit) (.pair (.ptr 0 0 T_footer_reader) .unit) T_footer_reader rfl
noncomputable def Sal_sp14 : Specs := spCons 39 (.m [Sal_p_footer_reader_name]) Sal_sp13
theorem Sal_sp14_ok : ∀ g s, Sal_sp14 g = some s → SoundX Tryz.prog CX g s := spCons_ok Sal_p_footer_reader_name_ok Sal_sp13_ok
noncomputable def Sal_p_footer_reader_number : SpM := intM Tryz.prog Sal_sp14 Tryz.f65 [none] (.pair T_footer_reader .unit) (.pair (.ptr 0 0 T_footer_reader) (.pair (.int .i64) .unit)) (.pair (.int .i64) .unit)
theorem Sal_p_footer_reader_number_ok : SoundX Tryz.prog CX 65 (.m [Sal_p_footer_reader_number]) := sound_intM Sal_sp14_ok Tryz.func65 (by kernel_rfl) rfl [none] (.pair T_footer_reader .unit) (.pair (.ptr 0 0 T_footer_reader) (.pair (.int .i64) .unit)) (.pair (.int .i64) .unit) rfl
noncomputable def Sal_sp15 : Specs := spCons 65 (.m [Sal_p_footer_reader_number]) Sal_sp14
theorem Sal_sp15_ok : ∀ g s, Sal_sp15 g = some s → SoundX Tryz.prog CX g s := spCons_ok Sal_p_footer_reader_number_ok Sal_sp14_ok
noncomputable def Sal_p_footer_reader_seconds : SpM := intM Tryz.prog Sal_sp15 Tryz.f40 [none] (.pair T_footer_reader .unit) (.pair (.ptr 0 0 T_footer_reader) .unit) (.pair (.int .i64) .unit)
theorem Sal_p_footer_reader_seconds_ok : SoundX Tryz.prog CX 40 (.m [Sal_p_footer_reader_seconds]) := sound_intM Sal_sp15_ok Tryz.func40 (by kernel_rfl) rfl [none] (.pair T_footer_reader .unit) (.pair (.ptr 0 0 T_footer_reader) .unit) (.pair (.int .i64) .unit) rfl
noncomputable def Sal_sp16 : Specs := spCons 40 (.m [Sal_p_footer_reader_seconds]) Sal_sp15
theorem Sal_sp16_ok : ∀ g s, Sal_sp16 g = some s → SoundX Tryz.prog CX g s := spCons_ok Sal_p_footer_reader_seconds_ok Sal_sp15_ok
noncomputable def Sal_strings_HasPrefix : Sp := intF Tryz.prog Sal_sp16 Tryz.f41 (.pair .str T_footer_reader) (.pair .bool .unit)
theorem Sal_strings_HasPrefix_ok : SoundX Tryz.prog CX 41 (.f Sal_strings_HasPrefix) := sound_int Sal_sp16_ok Tryz.func41 (by kernel_rfl) rfl (.pair .str T_footer_reader) (.pair .bool .unit) rfl rfl
noncomputable def Sal_sp17 : Specs := spCons 41 (.f Sal_strings_HasPrefix) Sal_sp16
theorem Sal_sp17_ok : ∀ g s, Sal_sp17 g = some s → SoundX Tryz.prog CX g s := spCons_ok Sal_strings_HasPrefix_ok Sal_sp16_ok
noncomputable def Sal_p_footer_reader_edge : SpM := intM Tryz.prog Sal_sp17 Tryz.f42 [none] (.pair T_footer_reader .unit) (.pair (.ptr 0 0 T_footer_reader) .unit) (.pair T_footer_Edge .unit)
theorem Sal_p_footer_reader_edge_ok : SoundX Tryz.prog CX 42 (.m [Sal_p_footer_reader_edge]) := sound_intM Sal_sp17_ok Tryz.func42 (by kernel_rfl) rfl [none] (.pair T_footer_reader .unit) (.pair (.ptr 0 0 T_footer_reader) .unit) (.pair T_footer_Edge .unit) rfl
noncomputable def Sal_sp18 : Specs := spCons 42 (.m [Sal_p_footer_reader_edge]) Sal_sp17
theorem Sal_sp18_ok : ∀ g s, Sal_sp18 g = some s → SoundX Tryz.prog CX g s := spCons_ok Sal_p_footer_reader_edge_ok Sal_sp17_ok
noncomputable def Sal_p_footer_reader_spec : SpM := intM Tryz.prog Sal_sp18 Tryz.f25 [none] (.pair T_footer_reader .unit) (.pair (.ptr 0 0 T_footer_reader) .unit) (.pair T_footer_Spec .unit)
theorem Sal_p_footer_reader_spec_ok : SoundX Tryz.prog CX 25 (.m [Sal_p_footer_reader_spec]) := sound_intM Sal_sp18_ok Tryz.func25 (by kernel_rfl) rfl [none] (.pair T_footer_reader .unit) (.pair (.ptr 0 0 T_footer_reader) .unit) (.pair T_footer_Spec .unit) rfl
noncomputable def Sal_sp19 : Specs := spCons 25 (.m [Sal_p_footer_reader_spec]) Sal_sp18
theorem Sal_sp19_ok : ∀ g s, Sal_sp19 g = some s → SoundX Tryz.prog CX g s := spCons_ok Sal_p_footer_reader_spec_ok Sal_sp18_ok
noncomputable def Sal_format_Plain : Sp := intF Tryz.prog Sal_sp19 Tryz.f29 T_footer_reader (.pair .bool .unit)
theorem Sal_format_Plain_ok : SoundX Tryz.prog CX 29 (.f Sal_format_Plain) := sound_int Sal_sp19_ok Tryz.func29 (by kernel_rfl) rfl T_footer_reader (.pair .bool .unit) rfl rfl
noncomputable def Sal_sp20 : Specs := spCons 29 (.f Sal_format_Plain) Sal_sp19
theorem Sal_sp20_ok : ∀ g s, Sal_sp20 g = some s → SoundX Tryz.prog CX g s := spCons_ok Sal_format_Plain_ok Sal_sp19_ok
noncomputable def Sal_footer_within : Sp := intF Tryz.prog Sal_sp20 Tryz.f30 (.pair (.int .i64) (.pair (.int .i64) (.pair (.int .i64) .unit))) (.pair .bool .unit)
theorem Sal_footer_within_ok : SoundX Tryz.prog CX 30 (.f Sal_footer_within) := sound_int Sal_sp20_ok Tryz.func30 (by kernel_rfl) rfl (.pair (.int .i64) (.pair (.int .i64) (.pair (.int .i64) .unit))) (.pair .bool .unit) rfl rfl
noncomputable def Sal_sp21 : Specs := spCons 30 (.f Sal_footer_within) Sal_sp20
theorem Sal_sp21_ok : ∀ g s, Sal_sp21 g = some s → SoundX Tryz.prog CX g s := spCons_ok Sal_footer_within_ok Sal_sp20_ok
noncomputable def Sal_footer_Edge_right : Sp := intF Tryz.prog Sal_sp21 Tryz.f31 (.pair T_footer_Edge .unit) (.pair .bool .unit)
theorem Sal_footer_Edge_right_ok : SoundX Tryz.prog CX 31 (.f Sal_footer_Edge_right) := sound_int Sal_sp21_ok Tryz.func31 (by kernel_rfl) rfl (.pair T_footer_Edge .unit) (.pair .bool .unit) rfl rfl
noncomputable def Sal_sp22 : Specs := spCons 31 (.f Sal_footer_Edge_right) Sal_sp21
theorem Sal_sp22_ok : ∀ g s, Sal_sp22 g = some s → SoundX Tryz.prog CX g s := spCons_ok Sal_footer_Edge_right_ok Sal_sp21_ok
noncomputable def Sal_footer_Right : Sp := intF Tryz.prog Sal_sp22 Tryz.f17 (.pair T_footer_Spec .unit) (.pair .bool .unit)
theorem Sal_footer_Right_ok : SoundX Tryz.prog CX 17 (.f Sal_footer_Right) := sound_int Sal_sp22_ok Tryz.func17 (by kernel_rfl) rfl (.pair T_footer_Spec .unit) (.pair .bool .unit) rfl rfl
noncomputable def Sal_sp23 : Specs := spCons 17 (.f Sal_footer_Right) Sal_sp22
theorem Sal_sp23_ok : ∀ g s, Sal_sp23 g = some s → SoundX Tryz.prog CX g s := spCons_ok Sal_footer_Right_ok Sal_sp22_ok
noncomputable def Sal_sp24 : Specs := spCons 78 (.m [wsM 101 5, wsM 103 5]) Sal_sp23
theorem Sal_sp24_ok : ∀ g s, Sal_sp24 g = some s → SoundX Tryz.prog CX g s := spCons_ok (sound_two (ws_sound (enter_of Tryz.func78 (by kernel_rfl) rfl) (bl_write (by unfold lies; kernel_rfl))) (sound_one (ws_sound (enter_of Tryz.func78 (by kernel_rfl) rfl) (bl_write (by unfold lies; kernel_rfl))))) Sal_sp23_ok
noncomputable def Sal_p_footer_writer_put : SpM := intM Tryz.prog Sal_sp24 Tryz.f67 [some 5, none] (.pair (.list (.int .u8)) (.pair (.bld 103 1 0) .unit)) (.pair (.ptr 1 0 (.bld 103 1 0)) (.pair (.list .str) .unit)) .unit
theorem Sal_p_footer_writer_put_ok : SoundX Tryz.prog CX 67 (.m [Sal_p_footer_writer_put]) := sound_intM Sal_sp24_ok Tryz.func67 (by kernel_rfl) rfl [some 5, none] (.pair (.list (.int .u8)) (.pair (.bld 103 1 0) .unit)) (.pair (.ptr 1 0 (.bld 103 1 0)) (.pair (.list .str) .unit)) .unit rfl
noncomputable def Sal_sp25 : Specs := spCons 67 (.m [Sal_p_footer_writer_put]) Sal_sp24
theorem Sal_sp25_ok : ∀ g s, Sal_sp25 g = some s → SoundX Tryz.prog CX g s := spCons_ok Sal_p_footer_writer_put_ok Sal_sp24_ok
noncomputable def Sal_p_footer_writer_name : SpM := intM Tryz.prog Sal_sp25 Tryz.f43 [some 5, none] (.pair (.list (.int .u8)) (.pair (.bld 103 1 0) .unit)) (.pair (.ptr 1 0 (.bld 103 1 0)) T_footer_reader) .unit
theorem Sal_p_footer_writer_name_ok : SoundX Tryz.prog CX 43 (.m [Sal_p_footer_writer_name]) := sound_intM Sal_sp25_ok Tryz.func43 (by kernel_rfl) rfl [some 5, none] (.pair (.list (.int .u8)) (.pair (.bld 103 1 0) .unit)) (.pair (.ptr 1 0 (.bld 103 1 0)) T_footer_reader) .unit rfl
noncomputable def Sal_sp26 : Specs := spCons 43 (.m [Sal_p_footer_writer_name]) Sal_sp25
theorem Sal_sp26_ok : ∀ g s, Sal_sp26 g = some s → SoundX Tryz.prog CX g s := spCons_ok Sal_p_footer_writer_name_ok Sal_sp25_ok
noncomputable def Sal_internal_strconv_small : Sp := intF Tryz.prog Sal_sp26 Tryz.f90 (.pair (.int .i64) .unit) T_footer_reader
theorem Sal_internal_strconv_small_ok : SoundX Tryz.prog CX 90 (.f Sal_internal_strconv_small) := sound_int Sal_sp26_ok Tryz.func90 (by kernel_rfl) rfl (.pair (.int .i64) .unit) T_footer_reader rfl rfl
noncomputable def Sal_sp27 : Specs := spCons 90 (.f Sal_internal_strconv_small) Sal_sp26
theorem Sal_sp27_ok : ∀ g s, Sal_sp27 g = some s → SoundX Tryz.prog CX g s := spCons_ok Sal_internal_strconv_small_ok Sal_sp26_ok
noncomputable def Sal_math_bits_Len64 : Sp := intF Tryz.prog Sal_sp27 Tryz.f60 (.pair (.int .u64) .unit) (.pair (.int .i64) .unit)
theorem Sal_math_bits_Len64_ok : SoundX Tryz.prog CX 60 (.f Sal_math_bits_Len64) := sound_int Sal_sp27_ok Tryz.func60 (by kernel_rfl) rfl (.pair (.int .u64) .unit) (.pair (.int .i64) .unit) rfl rfl
noncomputable def Sal_sp28 : Specs := spCons 60 (.f Sal_math_bits_Len64) Sal_sp27
theorem Sal_sp28_ok : ∀ g s, Sal_sp28 g = some s → SoundX Tryz.prog CX g s := spCons_ok Sal_math_bits_Len64_ok Sal_sp27_ok
noncomputable def Sal_internal_strconv_log10Pow2 : Sp := intF Tryz.prog Sal_sp28 Tryz.f96 (.pair (.int .i64) .unit) (.pair (.int .i64) .unit)
theorem Sal_internal_strconv_log10Pow2_ok : SoundX Tryz.prog CX 96 (.f Sal_internal_strconv_log10Pow2) := sound_int Sal_sp28_ok Tryz.func96 (by kernel_rfl) rfl (.pair (.int .i64) .unit) (.pair (.int .i64) .unit) rfl rfl
noncomputable def Sal_sp29 : Specs := spCons 96 (.f Sal_internal_strconv_log10Pow2) Sal_sp28
theorem Sal_sp29_ok : ∀ g s, Sal_sp29 g = some s → SoundX Tryz.prog CX g s := spCons_ok Sal_internal_strconv_log10Pow2_ok Sal_sp28_ok
noncomputable def Sal_internal_strconv_bool2_int : Sp := intF Tryz.prog Sal_sp29 Tryz.f97 (.pair .bool .unit) (.pair (.int .i64) .unit)
theorem Sal_internal_strconv_bool2_int_ok : SoundX Tryz.prog CX 97 (.f Sal_internal_strconv_bool2_int) := sound_int Sal_sp29_ok Tryz.func97 (by kernel_rfl) rfl (.pair .bool .unit) (.pair (.int .i64) .unit) rfl rfl
noncomputable def Sal_sp30 : Specs := spCons 97 (.f Sal_internal_strconv_bool2_int) Sal_sp29
theorem Sal_sp30_ok : ∀ g s, Sal_sp30 g = some s → SoundX Tryz.prog CX g s := spCons_ok Sal_internal_strconv_bool2_int_ok Sal_sp29_ok
noncomputable def Sal_internal_strconv_numDigits : Sp := intF Tryz.prog Sal_sp30 Tryz.f91 (.pair (.int .u64) .unit) (.pair (.int .i64) .unit)
theorem Sal_internal_strconv_numDigits_ok : SoundX Tryz.prog CX 91 (.f Sal_internal_strconv_numDigits) := sound_int Sal_sp30_ok Tryz.func91 (by kernel_rfl) rfl (.pair (.int .u64) .unit) (.pair (.int .i64) .unit) rfl rfl
noncomputable def Sal_sp31 : Specs := spCons 91 (.f Sal_internal_strconv_numDigits) Sal_sp30
theorem Sal_sp31_ok : ∀ g s, Sal_sp31 g = some s → SoundX Tryz.prog CX g s := spCons_ok Sal_internal_strconv_numDigits_ok Sal_sp30_ok
noncomputable def Sal_internal_strconv_formatBase10 : Sp := intF Tryz.prog Sal_sp31 Tryz.f92 (.pair (.list (.int .u8)) (.pair (.int .u64) .unit)) .unit
theorem Sal_internal_strconv_formatBase10_ok : SoundX Tryz.prog CX 92 (.f Sal_internal_strconv_formatBase10) := sound_int Sal_sp31_ok Tryz.func92 (by kernel_rfl) rfl (.pair (.list (.int .u8)) (.pair (.int .u64) .unit)) .unit rfl rfl
noncomputable def Sal_sp32 : Specs := spCons 92 (.f Sal_internal_strconv_formatBase10) Sal_sp31
theorem Sal_sp32_ok : ∀ g s, Sal_sp32 g = some s → SoundX Tryz.prog CX g s := spCons_ok Sal_internal_strconv_formatBase10_ok Sal_sp31_ok
noncomputable def Sal_internal_strconv_isPowerOfTwo : Sp := intF Tryz.prog Sal_sp32 Tryz.f98 (.pair (.int .i64) .unit) (.pair .bool .unit)
theorem Sal_internal_strconv_isPowerOfTwo_ok : SoundX Tryz.prog CX 98 (.f Sal_internal_strconv_isPowerOfTwo) := sound_int Sal_sp32_ok Tryz.func98 (by kernel_rfl) rfl (.pair (.int .i64) .unit) (.pair .bool .unit) rfl rfl
noncomputable def Sal_sp33 : Specs := spCons 98 (.f Sal_internal_strconv_isPowerOfTwo) Sal_sp32
theorem Sal_sp33_ok : ∀ g s, Sal_sp33 g = some s → SoundX Tryz.prog CX g s := spCons_ok Sal_internal_strconv_isPowerOfTwo_ok Sal_sp32_ok
noncomputable def Sal_math_bits_TrailingZeros32 : Sp := intF Tryz.prog Sal_sp33 Tryz.f100 (.pair (.int .u32) .unit) (.pair (.int .i64) .unit)
theorem Sal_math_bits_TrailingZeros32_ok : SoundX Tryz.prog CX 100 (.f Sal_math_bits_TrailingZeros32) := sound_int Sal_sp33_ok Tryz.func100 (by kernel_rfl) rfl (.pair (.int .u32) .unit) (.pair (.int .i64) .unit) rfl rfl
noncomputable def Sal_sp34 : Specs := spCons 100 (.f Sal_math_bits_TrailingZeros32) Sal_sp33
theorem Sal_sp34_ok : ∀ g s, Sal_sp34 g = some s → SoundX Tryz.prog CX g s := spCons_ok Sal_math_bits_TrailingZeros32_ok Sal_sp33_ok
noncomputable def Sal_math_bits_TrailingZeros64 : Sp := intF Tryz.prog Sal_sp34 Tryz.f101 (.pair (.int .u64) .unit) (.pair (.int .i64) .unit)
theorem Sal_math_bits_TrailingZeros64_ok : SoundX Tryz.prog CX 101 (.f Sal_math_bits_TrailingZeros64) := sound_int Sal_sp34_ok Tryz.func101 (by kernel_rfl) rfl (.pair (.int .u64) .unit) (.pair (.int .i64) .unit) rfl rfl
noncomputable def Sal_sp35 : Specs := spCons 101 (.f Sal_math_bits_TrailingZeros64) Sal_sp34
theorem Sal_sp35_ok : ∀ g s, Sal_sp35 g = some s → SoundX Tryz.prog CX g s := spCons_ok Sal_math_bits_TrailingZeros64_ok Sal_sp34_ok
noncomputable def Sal_math_bits_TrailingZeros : Sp := intF Tryz.prog Sal_sp35 Tryz.f99 (.pair (.int .u64) .unit) (.pair (.int .i64) .unit)
theorem Sal_math_bits_TrailingZeros_ok : SoundX Tryz.prog CX 99 (.f Sal_math_bits_TrailingZeros) := sound_int Sal_sp35_ok Tryz.func99 (by kernel_rfl) rfl (.pair (.int .u64) .unit) (.pair (.int .i64) .unit) rfl rfl
noncomputable def Sal_sp36 : Specs := spCons 99 (.f Sal_math_bits_TrailingZeros) Sal_sp35
theorem Sal_sp36_ok : ∀ g s, Sal_sp36 g = some s → SoundX Tryz.prog CX g s := spCons_ok Sal_math_bits_TrailingZeros_ok Sal_sp35_ok
noncomputable def Sal_internal_strconv_formatBits : Sp := intF Tryz.prog Sal_sp36 Tryz.f93 (.pair (.list (.int .u8)) (.pair (.int .u64) (.pair (.int .i64) (.pair .bool (.pair .bool .unit))))) (.pair (.list (.int .u8)) T_footer_reader)
theorem Sal_internal_strconv_formatBits_ok : SoundX Tryz.prog CX 93 (.f Sal_internal_strconv_formatBits) := sound_int Sal_sp36_ok Tryz.func93 (by kernel_rfl) rfl (.pair (.list (.int .u8)) (.pair (.int .u64) (.pair (.int .i64) (.pair .bool (.pair .bool .unit))))) (.pair (.list (.int .u8)) T_footer_reader) rfl rfl
noncomputable def Sal_sp37 : Specs := spCons 93 (.f Sal_internal_strconv_formatBits) Sal_sp36
theorem Sal_sp37_ok : ∀ g s, Sal_sp37 g = some s → SoundX Tryz.prog CX g s := spCons_ok Sal_internal_strconv_formatBits_ok Sal_sp36_ok
noncomputable def Sal_internal_strconv_FormatInt : Sp := intF Tryz.prog Sal_sp37 Tryz.f84 (.pair (.int .i64) (.pair (.int .i64) .unit)) T_footer_reader
theorem Sal_internal_strconv_FormatInt_ok : SoundX Tryz.prog CX 84 (.f Sal_internal_strconv_FormatInt) := sound_int Sal_sp37_ok Tryz.func84 (by kernel_rfl) rfl (.pair (.int .i64) (.pair (.int .i64) .unit)) T_footer_reader rfl rfl
noncomputable def Sal_sp38 : Specs := spCons 84 (.f Sal_internal_strconv_FormatInt) Sal_sp37
theorem Sal_sp38_ok : ∀ g s, Sal_sp38 g = some s → SoundX Tryz.prog CX g s := spCons_ok Sal_internal_strconv_FormatInt_ok Sal_sp37_ok
noncomputable def Sal_internal_strconv_Itoa : Sp := intF Tryz.prog Sal_sp38 Tryz.f79 (.pair (.int .i64) .unit) T_footer_reader
theorem Sal_internal_strconv_Itoa_ok : SoundX Tryz.prog CX 79 (.f Sal_internal_strconv_Itoa) := sound_int Sal_sp38_ok Tryz.func79 (by kernel_rfl) rfl (.pair (.int .i64) .unit) T_footer_reader rfl rfl
noncomputable def Sal_sp39 : Specs := spCons 79 (.f Sal_internal_strconv_Itoa) Sal_sp38
theorem Sal_sp39_ok : ∀ g s, Sal_sp39 g = some s → SoundX Tryz.prog CX g s := spCons_ok Sal_internal_strconv_Itoa_ok Sal_sp38_ok
noncomputable def Sal_strconv_Itoa : Sp := intF Tryz.prog Sal_sp39 Tryz.f68 (.pair (.int .i64) .unit) T_footer_reader
theorem Sal_strconv_Itoa_ok : SoundX Tryz.prog CX 68 (.f Sal_strconv_Itoa) := sound_int Sal_sp39_ok Tryz.func68 (by kernel_rfl) rfl (.pair (.int .i64) .unit) T_footer_reader rfl rfl
noncomputable def Sal_sp40 : Specs := spCons 68 (.f Sal_strconv_Itoa) Sal_sp39
theorem Sal_sp40_ok : ∀ g s, Sal_sp40 g = some s → SoundX Tryz.prog CX g s := spCons_ok Sal_strconv_Itoa_ok Sal_sp39_ok
noncomputable def Sal_p_footer_writer_two : SpM := intM Tryz.prog Sal_sp40 Tryz.f69 [some 5, none] (.pair (.list (.int .u8)) (.pair (.bld 103 1 0) .unit)) (.pair (.ptr 1 0 (.bld 103 1 0)) (.pair (.int .i64) .unit)) .unit
theorem Sal_p_footer_writer_two_ok : SoundX Tryz.prog CX 69 (.m [Sal_p_footer_writer_two]) := sound_intM Sal_sp40_ok Tryz.func69 (by kernel_rfl) rfl [some 5, none] (.pair (.list (.int .u8)) (.pair (.bld 103 1 0) .unit)) (.pair (.ptr 1 0 (.bld 103 1 0)) (.pair (.int .i64) .unit)) .unit rfl
noncomputable def Sal_sp41 : Specs := spCons 69 (.m [Sal_p_footer_writer_two]) Sal_sp40
theorem Sal_sp41_ok : ∀ g s, Sal_sp41 g = some s → SoundX Tryz.prog CX g s := spCons_ok Sal_p_footer_writer_two_ok Sal_sp40_ok
noncomputable def Sal_p_footer_writer_seconds : SpM := intM Tryz.prog Sal_sp41 Tryz.f44 [some 5, none] (.pair (.list (.int .u8)) (.pair (.bld 103 1 0) .unit)) (.pair (.ptr 1 0 (.bld 103 1 0)) (.pair (.int .i64) .unit)) .unit
theorem Sal_p_footer_writer_seconds_ok : SoundX Tryz.prog CX 44 (.m [Sal_p_footer_writer_seconds]) := sound_intM Sal_sp41_ok Tryz.func44 (by kernel_rfl) rfl [some 5, none] (.pair (.list (.int .u8)) (.pair (.bld 103 1 0) .unit)) (.pair (.ptr 1 0 (.bld 103 1 0)) (.pair (.int .i64) .unit)) .unit rfl
noncomputable def Sal_sp42 : Specs := spCons 44 (.m [Sal_p_footer_writer_seconds]) Sal_sp41
theorem Sal_sp42_ok : ∀ g s, Sal_sp42 g = some s → SoundX Tryz.prog CX g s := spCons_ok Sal_p_footer_writer_seconds_ok Sal_sp41_ok
noncomputable def Sal_p_footer_writer_edge : SpM := intM Tryz.prog Sal_sp42 Tryz.f45 [some 5, none] (.pair (.list (.int .u8)) (.pair (.bld 103 1 0) .unit)) (.pair (.ptr 1 0 (.bld 103 1 0)) (.pair T_footer_Edge .unit)) .unit
theorem Sal_p_footer_writer_edge_ok : SoundX Tryz.prog CX 45 (.m [Sal_p_footer_writer_edge]) := sound_intM Sal_sp42_ok Tryz.func45 (by kernel_rfl) rfl [some 5, none] (.pair (.list (.int .u8)) (.pair (.bld 103 1 0) .unit)) (.pair (.ptr 1 0 (.bld 103 1 0)) (.pair T_footer_Edge .unit)) .unit rfl
noncomputable def Sal_sp43 : Specs := spCons 45 (.m [Sal_p_footer_writer_edge]) Sal_sp42
theorem Sal_sp43_ok : ∀ g s, Sal_sp43 g = some s → SoundX Tryz.prog CX g s := spCons_ok Sal_p_footer_writer_edge_ok Sal_sp42_ok
noncomputable def Sal_sp44 : Specs := spCons 46 (.m [stM 101 5, stM 103 5]) Sal_sp43
theorem Sal_sp44_ok : ∀ g s, Sal_sp44 g = some s → SoundX Tryz.prog CX g s := spCons_ok (sound_two (st_sound (enter_of Tryz.func46 (by kernel_rfl) rfl) bl_string) (sound_one (st_sound (enter_of Tryz.func46 (by kernel_rfl) rfl) bl_string))) Sal_sp43_ok
noncomputable def Sal_footer_Show : Sp := intF Tryz.prog Sal_sp44 Tryz.f26 (.pair T_footer_Spec .unit) (.pair .str (.pair (.int .i64) .unit))
theorem Sal_footer_Show_ok : SoundX Tryz.prog CX 26 (.f Sal_footer_Show) := sound_int Sal_sp44_ok Tryz.func26 (by kernel_rfl) rfl (.pair T_footer_Spec .unit) (.pair .str (.pair (.int .i64) .unit)) rfl rfl
noncomputable def Sal_sp45 : Specs := spCons 26 (.f Sal_footer_Show) Sal_sp44
theorem Sal_sp45_ok : ∀ g s, Sal_sp45 g = some s → SoundX Tryz.prog CX g s := spCons_ok Sal_footer_Show_ok Sal_sp44_ok
noncomputable def Sal_footer_Parse : Sp := intD Tryz.prog Sal_sp45 Tryz.f11 6 24 T_footer_reader (.pair T_footer_Spec (.pair (.int .i64) .unit))
theorem Sal_footer_Parse_ok : SoundX Tryz.prog CX 11 (.f Sal_footer_Parse) := sound_intD (i := regId (cl (cr (bodyOf Tryz.f11)))) (df := opAt (cl (cr (bodyOf Tryz.f11))) 1) Sal_sp45_ok Tryz.func11 (by kernel_rfl) rfl rfl rfl rfl rfl
  (fun args w => rec_nothing (o1 := opAt (cl (bodyOf Tryz.f24)) 0) (o2 := opAt (cl (bodyOf Tryz.f24)) 1) (o3 := opAt (cl (cr (bodyOf Tryz.f24))) 0) (o4 := opAt (cl (cr (bodyOf Tryz.f24))) 1) Tryz.func24 rfl rfl rfl rfl rfl rfl rfl rfl rfl rfl rfl rfl rfl rfl Tryz.underlying20 (by decide) (by decide) (by decide) (by decide) args w) (enter_of Tryz.func24 (by kernel_rfl) rfl) T_footer_reader (.pair T_footer_Spec (.pair (.int .i64) .unit)) rfl rfl
theorem Sal_footer_Parse_val : Sal_footer_Parse.F 1000000 (⟨#[67,69,84,45,49,67,69,83,84,44,77,51,46,53,46,48,44,77,49,48,46,53,46,48,47,51]⟩, ()) = some ((⟨#[67,69,84]⟩, ((3600:Int), (⟨#[67,69,83,84]⟩, ((7200:Int), ((false,((0:Int),((3:Int),((5:Int),((7200:Int),()))))), ((false,((0:Int),((10:Int),((5:Int),((10800:Int),()))))), ())))))), ((0:Int), ())) := by kernel_rfl
theorem Sal_footer_Parse_ptok : SoundX Tryz.prog CX 11 (.f (ptS (.pair T_footer_Spec (.pair (.int .i64) .unit)) ⟨#[67,69,84,45,49,67,69,83,84,44,77,51,46,53,46,48,44,77,49,48,46,53,46,48,47,51]⟩ ((⟨#[67,69,84]⟩, ((3600:Int), (⟨#[67,69,83,84]⟩, ((7200:Int), ((false,((0:Int),((3:Int),((5:Int),((7200:Int),()))))), ((false,((0:Int),((10:Int),((5:Int),((10800:Int),()))))), ())))))), ((0:Int), ())))) := pt_intD (rs := (.pair T_footer_Spec (.pair (.int .i64) .unit))) Sal_footer_Parse_ok Sal_footer_Parse_val
noncomputable def Sal_sp46 : Specs := spCons 11 (.f (ptS (.pair T_footer_Spec (.pair (.int .i64) .unit)) ⟨#[67,69,84,45,49,67,69,83,84,44,77,51,46,53,46,48,44,77,49,48,46,53,46,48,47,51]⟩ ((⟨#[67,69,84]⟩, ((3600:Int), (⟨#[67,69,83,84]⟩, ((7200:Int), ((false,((0:Int),((3:Int),((5:Int),((7200:Int),()))))), ((false,((0:Int),((10:Int),((5:Int),((10800:Int),()))))), ())))))), ((0:Int), ())))) Sal_sp45
theorem Sal_sp46_ok : ∀ g s, Sal_sp46 g = some s → SoundX Tryz.prog CX g s := spCons_ok Sal_footer_Parse_ptok Sal_sp45_ok
noncomputable def Sal_civil_Leap : Sp := intF Tryz.prog Sal_sp46 Tryz.f9 (.pair (.int .i64) .unit) (.pair .bool .unit)
theorem Sal_civil_Leap_ok : SoundX Tryz.prog CX 9 (.f Sal_civil_Leap) := sound_int Sal_sp46_ok Tryz.func9 (by kernel_rfl) rfl (.pair (.int .i64) .unit) (.pair .bool .unit) rfl rfl
noncomputable def Sal_sp47 : Specs := spCons 9 (.f Sal_civil_Leap) Sal_sp46
theorem Sal_sp47_ok : ∀ g s, Sal_sp47 g = some s → SoundX Tryz.prog CX g s := spCons_ok Sal_civil_Leap_ok Sal_sp46_ok
noncomputable def Sal_civil_Long : Sp := intF Tryz.prog Sal_sp47 Tryz.f38 (.pair (.int .i64) (.pair (.int .i64) .unit)) (.pair (.int .i64) .unit)
theorem Sal_civil_Long_ok : SoundX Tryz.prog CX 38 (.f Sal_civil_Long) := sound_int Sal_sp47_ok Tryz.func38 (by kernel_rfl) rfl (.pair (.int .i64) (.pair (.int .i64) .unit)) (.pair (.int .i64) .unit) rfl rfl
noncomputable def Sal_sp48 : Specs := spCons 38 (.f Sal_civil_Long) Sal_sp47
theorem Sal_sp48_ok : ∀ g s, Sal_sp48 g = some s → SoundX Tryz.prog CX g s := spCons_ok Sal_civil_Long_ok Sal_sp47_ok
noncomputable def Sal_civil_Right : Sp := intF Tryz.prog Sal_sp48 Tryz.f48 (.pair (.int .i64) (.pair (.int .i64) (.pair (.int .i64) .unit))) (.pair .bool .unit)
theorem Sal_civil_Right_ok : SoundX Tryz.prog CX 48 (.f Sal_civil_Right) := sound_int Sal_sp48_ok Tryz.func48 (by kernel_rfl) rfl (.pair (.int .i64) (.pair (.int .i64) (.pair (.int .i64) .unit))) (.pair .bool .unit) rfl rfl
noncomputable def Sal_sp49 : Specs := spCons 48 (.f Sal_civil_Right) Sal_sp48
theorem Sal_sp49_ok : ∀ g s, Sal_sp49 g = some s → SoundX Tryz.prog CX g s := spCons_ok Sal_civil_Right_ok Sal_sp48_ok
noncomputable def Sal_civil_number : Sp := intF Tryz.prog Sal_sp49 Tryz.f49 (.pair (.int .i64) (.pair (.int .i64) (.pair (.int .i64) .unit))) (.pair (.int .i64) .unit)
theorem Sal_civil_number_ok : SoundX Tryz.prog CX 49 (.f Sal_civil_number) := sound_int Sal_sp49_ok Tryz.func49 (by kernel_rfl) rfl (.pair (.int .i64) (.pair (.int .i64) (.pair (.int .i64) .unit))) (.pair (.int .i64) .unit) rfl rfl
noncomputable def Sal_sp50 : Specs := spCons 49 (.f Sal_civil_number) Sal_sp49
theorem Sal_sp50_ok : ∀ g s, Sal_sp50 g = some s → SoundX Tryz.prog CX g s := spCons_ok Sal_civil_number_ok Sal_sp49_ok
noncomputable def Sal_civil_Days : Sp := intF Tryz.prog Sal_sp50 Tryz.f28 (.pair (.int .i64) (.pair (.int .i64) (.pair (.int .i64) .unit))) (.pair (.int .i64) (.pair (.int .i64) .unit))
theorem Sal_civil_Days_ok : SoundX Tryz.prog CX 28 (.f Sal_civil_Days) := sound_int Sal_sp50_ok Tryz.func28 (by kernel_rfl) rfl (.pair (.int .i64) (.pair (.int .i64) (.pair (.int .i64) .unit))) (.pair (.int .i64) (.pair (.int .i64) .unit)) rfl rfl
noncomputable def Sal_sp51 : Specs := spCons 28 (.f Sal_civil_Days) Sal_sp50
theorem Sal_sp51_ok : ∀ g s, Sal_sp51 g = some s → SoundX Tryz.prog CX g s := spCons_ok Sal_civil_Days_ok Sal_sp50_ok
noncomputable def Sal_civil_Date : Sp := intF Tryz.prog Sal_sp51 Tryz.f36 (.pair (.int .i64) .unit) (.pair (.int .i64) (.pair (.int .i64) (.pair (.int .i64) (.pair (.int .i64) .unit))))
theorem Sal_civil_Date_ok : SoundX Tryz.prog CX 36 (.f Sal_civil_Date) := sound_int Sal_sp51_ok Tryz.func36 (by kernel_rfl) rfl (.pair (.int .i64) .unit) (.pair (.int .i64) (.pair (.int .i64) (.pair (.int .i64) (.pair (.int .i64) .unit)))) rfl rfl
noncomputable def Sal_sp52 : Specs := spCons 36 (.f Sal_civil_Date) Sal_sp51
theorem Sal_sp52_ok : ∀ g s, Sal_sp52 g = some s → SoundX Tryz.prog CX g s := spCons_ok Sal_civil_Date_ok Sal_sp51_ok
noncomputable def Sal_posix_on : Sp := intF Tryz.prog Sal_sp52 Tryz.f47 (.pair T_footer_Edge .unit) (.pair (.int .i64) (.pair T_api_Day .unit))
theorem Sal_posix_on_ok : SoundX Tryz.prog CX 47 (.f Sal_posix_on) := sound_int Sal_sp52_ok Tryz.func47 (by kernel_rfl) rfl (.pair T_footer_Edge .unit) (.pair (.int .i64) (.pair T_api_Day .unit)) rfl rfl
noncomputable def Sal_sp53 : Specs := spCons 47 (.f Sal_posix_on) Sal_sp52
theorem Sal_sp53_ok : ∀ g s, Sal_sp53 g = some s → SoundX Tryz.prog CX g s := spCons_ok Sal_posix_on_ok Sal_sp52_ok
noncomputable def Sal_posix_spec_rule : Sp := intF Tryz.prog Sal_sp53 Tryz.f27 (.pair T_posix_spec (.pair T_footer_Edge T_api_At)) (.pair T_api_Rule .unit)
theorem Sal_posix_spec_rule_ok : SoundX Tryz.prog CX 27 (.f Sal_posix_spec_rule) := sound_int Sal_sp53_ok Tryz.func27 (by kernel_rfl) rfl (.pair T_posix_spec (.pair T_footer_Edge T_api_At)) (.pair T_api_Rule .unit) rfl rfl
noncomputable def Sal_sp54 : Specs := spCons 27 (.f Sal_posix_spec_rule) Sal_sp53
theorem Sal_sp54_ok : ∀ g s, Sal_sp54 g = some s → SoundX Tryz.prog CX g s := spCons_ok Sal_posix_spec_rule_ok Sal_sp53_ok
noncomputable def Sal_posix_Era : Sp := intF Tryz.prog Sal_sp54 Tryz.f12 (.pair T_footer_Spec (.pair (.int .i64) .unit)) (.pair T_api_Era (.pair (.list T_api_Rule) (.pair (.int .i64) .unit)))
theorem Sal_posix_Era_ok : SoundX Tryz.prog CX 12 (.f Sal_posix_Era) := sound_int Sal_sp54_ok Tryz.func12 (by kernel_rfl) rfl (.pair T_footer_Spec (.pair (.int .i64) .unit)) (.pair T_api_Era (.pair (.list T_api_Rule) (.pair (.int .i64) .unit))) rfl rfl
noncomputable def Sal_sp55 : Specs := spCons 12 (.f Sal_posix_Era) Sal_sp54
theorem Sal_sp55_ok : ∀ g s, Sal_sp55 g = some s → SoundX Tryz.prog CX g s := spCons_ok Sal_posix_Era_ok Sal_sp54_ok
noncomputable def Sal_noonmarklaw26_alive : Sp := intF Tryz.prog Sal_sp55 Tryz.f5 .unit (.pair .bool .unit)
theorem Sal_noonmarklaw26_alive_ok : SoundX Tryz.prog CX 5 (.f Sal_noonmarklaw26_alive) := sound_int Sal_sp55_ok Tryz.func5 (by kernel_rfl) rfl .unit (.pair .bool .unit) rfl rfl
noncomputable def Sal_sp56 : Specs := spCons 5 (.f Sal_noonmarklaw26_alive) Sal_sp55
theorem Sal_sp56_ok : ∀ g s, Sal_sp56 g = some s → SoundX Tryz.prog CX g s := spCons_ok Sal_noonmarklaw26_alive_ok Sal_sp55_ok
end Go.Proofs.YtedenojeljjnaaaGreatDoorPi

set_option maxRecDepth 100000
set_option maxHeartbeats 4000000
namespace Go.Proofs.YtedenojeljjnaaaGreatDoorPi
open Go Go.Proofs
def aliveF (_n : Nat) (_x : Unit) : Option (Bool × Unit) := some (true, ())
def aliveS : Sp := ⟨.unit, .pair .bool .unit, aliveF⟩
theorem alive_val : Sal_noonmarklaw26_alive.F 1000000 () = some (true, ()) := by kernel_rfl
theorem alive_okX : SoundX Tryz.prog CX 5 (.f aliveS) := pt_unit (rs := .pair .bool .unit) (r := (true, ())) Sal_noonmarklaw26_alive_ok alive_val
end Go.Proofs.YtedenojeljjnaaaGreatDoorPi
