import Derived.Test.YtedenojeljjnaaaDoorPiC
import Derived.Test.YtedenojeljjnaaaDoorProg
import Derived.Test.YtedenojeljjnaaaDoorBld
set_option linter.unusedVariables false
set_option maxRecDepth 100000
set_option maxHeartbeats 4000000
namespace Go.Proofs.YtedenojeljjnaaaDoorPi
open Go Go.Proofs
def CX : Ctx := ⟨fun _ => True, fun _ _ => trivial, true⟩
abbrev T_footer_reader : Ty := (.pair .str .unit)
abbrev T_api_At : Ty := (.pair (.int .i64) (.pair (.int .i64) .unit))
abbrev T_api_Day : Ty := (.pair (.int .i64) T_api_At)
abbrev T_footer_Edge : Ty := (.pair .bool (.pair (.int .i64) T_api_Day))
abbrev T_api_Until : Ty := (.pair .bool (.pair (.int .i64) (.pair (.int .i64) (.pair T_api_Day (.pair T_api_At .unit)))))
abbrev T_api_Rule : Ty := (.pair .str (.pair (.int .i64) (.pair (.int .i64) (.pair (.int .i64) (.pair T_api_Day (.pair T_api_At (.pair (.int .i64) T_footer_reader)))))))
abbrev T_footer_Spec : Ty := (.pair .str (.pair (.int .i64) (.pair .str (.pair (.int .i64) (.pair T_footer_Edge (.pair T_footer_Edge .unit))))))
abbrev T_api_Era : Ty := (.pair (.int .i64) (.pair (.int .i64) (.pair (.int .i64) (.pair .str (.pair .str (.pair T_api_Until .unit))))))
abbrev T_posix_spec : Ty := (.pair T_footer_Spec .unit)
noncomputable def Pal_footer_Parse_1 : Sp := intF Tryd.prog spNil Tryd.f20 .unit .unit
theorem Pal_footer_Parse_1_ok : SoundX Tryd.prog CX 20 (.f Pal_footer_Parse_1) := sound_int spNil_ok Tryd.func20 (by kernel_rfl) rfl .unit .unit rfl rfl
noncomputable def Pal_sp0 : Specs := spCons 20 (.f Pal_footer_Parse_1) spNil
theorem Pal_sp0_ok : ∀ g s, Pal_sp0 g = some s → SoundX Tryd.prog CX g s := spCons_ok Pal_footer_Parse_1_ok spNil_ok
noncomputable def Pal_internal_stringslite_HasPrefix : Sp := intF Tryd.prog Pal_sp0 Tryd.f53 (.pair .str (.pair .str .unit)) (.pair .bool .unit)
theorem Pal_internal_stringslite_HasPrefix_ok : SoundX Tryd.prog CX 53 (.f Pal_internal_stringslite_HasPrefix) := sound_int Pal_sp0_ok Tryd.func53 (by kernel_rfl) rfl (.pair .str (.pair .str .unit)) (.pair .bool .unit) rfl rfl
noncomputable def Pal_sp1 : Specs := spCons 53 (.f Pal_internal_stringslite_HasPrefix) Pal_sp0
theorem Pal_sp1_ok : ∀ g s, Pal_sp1 g = some s → SoundX Tryd.prog CX g s := spCons_ok Pal_internal_stringslite_HasPrefix_ok Pal_sp0_ok
noncomputable def Pal_internal_stringslite_CutPrefix : Sp := intF Tryd.prog Pal_sp1 Tryd.f67 (.pair .str (.pair .str .unit)) (.pair .str (.pair .bool .unit))
theorem Pal_internal_stringslite_CutPrefix_ok : SoundX Tryd.prog CX 67 (.f Pal_internal_stringslite_CutPrefix) := sound_int Pal_sp1_ok Tryd.func67 (by kernel_rfl) rfl (.pair .str (.pair .str .unit)) (.pair .str (.pair .bool .unit)) rfl rfl
noncomputable def Pal_sp2 : Specs := spCons 67 (.f Pal_internal_stringslite_CutPrefix) Pal_sp1
theorem Pal_sp2_ok : ∀ g s, Pal_sp2 g = some s → SoundX Tryd.prog CX g s := spCons_ok Pal_internal_stringslite_CutPrefix_ok Pal_sp1_ok
noncomputable def Pal_strings_CutPrefix : Sp := intF Tryd.prog Pal_sp2 Tryd.f63 (.pair .str (.pair .str .unit)) (.pair .str (.pair .bool .unit))
theorem Pal_strings_CutPrefix_ok : SoundX Tryd.prog CX 63 (.f Pal_strings_CutPrefix) := sound_int Pal_sp2_ok Tryd.func63 (by kernel_rfl) rfl (.pair .str (.pair .str .unit)) (.pair .str (.pair .bool .unit)) rfl rfl
noncomputable def Pal_sp3 : Specs := spCons 63 (.f Pal_strings_CutPrefix) Pal_sp2
theorem Pal_sp3_ok : ∀ g s, Pal_sp3 g = some s → SoundX Tryd.prog CX g s := spCons_ok Pal_strings_CutPrefix_ok Pal_sp2_ok
noncomputable def Pal_p_footer_reader_skip : SpM := intM Tryd.prog Pal_sp3 Tryd.f48 [none] (.pair T_footer_reader .unit) (.pair (.ptr 0 0 T_footer_reader) T_footer_reader) (.pair .bool .unit)
theorem Pal_p_footer_reader_skip_ok : SoundX Tryd.prog CX 48 (.m [Pal_p_footer_reader_skip]) := sound_intM Pal_sp3_ok Tryd.func48 (by kernel_rfl) rfl [none] (.pair T_footer_reader .unit) (.pair (.ptr 0 0 T_footer_reader) T_footer_reader) (.pair .bool .unit) rfl
noncomputable def Pal_sp4 : Specs := spCons 48 (.m [Pal_p_footer_reader_skip]) Pal_sp3
theorem Pal_sp4_ok : ∀ g s, Pal_sp4 g = some s → SoundX Tryd.prog CX g s := spCons_ok Pal_p_footer_reader_skip_ok Pal_sp3_ok
noncomputable def Pal_internal_stringslite_IndexByte : Sp := intF Tryd.prog Pal_sp4 Tryd.f71 (.pair .str (.pair (.int .u8) .unit)) (.pair (.int .i64) .unit)
theorem Pal_internal_stringslite_IndexByte_ok : SoundX Tryd.prog CX 71 (.f Pal_internal_stringslite_IndexByte) := sound_int Pal_sp4_ok Tryd.func71 (by kernel_rfl) rfl (.pair .str (.pair (.int .u8) .unit)) (.pair (.int .i64) .unit) rfl rfl
noncomputable def Pal_sp5 : Specs := spCons 71 (.f Pal_internal_stringslite_IndexByte) Pal_sp4
theorem Pal_sp5_ok : ∀ g s, Pal_sp5 g = some s → SoundX Tryd.prog CX g s := spCons_ok Pal_internal_stringslite_IndexByte_ok Pal_sp4_ok
noncomputable def Pal_internal_bytealg_Cutover : Sp := intF Tryd.prog Pal_sp5 Tryd.f73 (.pair (.int .i64) .unit) (.pair (.int .i64) .unit)
theorem Pal_internal_bytealg_Cutover_ok : SoundX Tryd.prog CX 73 (.f Pal_internal_bytealg_Cutover) := sound_int Pal_sp5_ok Tryd.func73 (by kernel_rfl) rfl (.pair (.int .i64) .unit) (.pair (.int .i64) .unit) rfl rfl
noncomputable def Pal_sp6 : Specs := spCons 73 (.f Pal_internal_bytealg_Cutover) Pal_sp5
theorem Pal_sp6_ok : ∀ g s, Pal_sp6 g = some s → SoundX Tryd.prog CX g s := spCons_ok Pal_internal_bytealg_Cutover_ok Pal_sp5_ok
noncomputable def Pal_internal_bytealg_hashStr_string : Sp := intF Tryd.prog Pal_sp6 Tryd.f81 T_footer_reader (.pair (.int .u32) (.pair (.int .u32) .unit))
theorem Pal_internal_bytealg_hashStr_string_ok : SoundX Tryd.prog CX 81 (.f Pal_internal_bytealg_hashStr_string) := sound_int Pal_sp6_ok Tryd.func81 (by kernel_rfl) rfl T_footer_reader (.pair (.int .u32) (.pair (.int .u32) .unit)) rfl rfl
noncomputable def Pal_sp7 : Specs := spCons 81 (.f Pal_internal_bytealg_hashStr_string) Pal_sp6
theorem Pal_sp7_ok : ∀ g s, Pal_sp7 g = some s → SoundX Tryd.prog CX g s := spCons_ok Pal_internal_bytealg_hashStr_string_ok Pal_sp6_ok
noncomputable def Pal_internal_bytealg_IndexRabinKarp_string : Sp := intF Tryd.prog Pal_sp7 Tryd.f74 (.pair .str T_footer_reader) (.pair (.int .i64) .unit)
theorem Pal_internal_bytealg_IndexRabinKarp_string_ok : SoundX Tryd.prog CX 74 (.f Pal_internal_bytealg_IndexRabinKarp_string) := sound_int Pal_sp7_ok Tryd.func74 (by kernel_rfl) rfl (.pair .str T_footer_reader) (.pair (.int .i64) .unit) rfl rfl
noncomputable def Pal_sp8 : Specs := spCons 74 (.f Pal_internal_bytealg_IndexRabinKarp_string) Pal_sp7
theorem Pal_sp8_ok : ∀ g s, Pal_sp8 g = some s → SoundX Tryd.prog CX g s := spCons_ok Pal_internal_bytealg_IndexRabinKarp_string_ok Pal_sp7_ok
noncomputable def Pal_internal_stringslite_Index : Sp := intF Tryd.prog Pal_sp8 Tryd.f68 (.pair .str T_footer_reader) (.pair (.int .i64) .unit)
theorem Pal_internal_stringslite_Index_ok : SoundX Tryd.prog CX 68 (.f Pal_internal_stringslite_Index) := sound_int Pal_sp8_ok Tryd.func68 (by kernel_rfl) rfl (.pair .str T_footer_reader) (.pair (.int .i64) .unit) rfl rfl
noncomputable def Pal_sp9 : Specs := spCons 68 (.f Pal_internal_stringslite_Index) Pal_sp8
theorem Pal_sp9_ok : ∀ g s, Pal_sp9 g = some s → SoundX Tryd.prog CX g s := spCons_ok Pal_internal_stringslite_Index_ok Pal_sp8_ok
noncomputable def Pal_internal_stringslite_Cut : Sp := intF Tryd.prog Pal_sp9 Tryd.f64 (.pair .str T_footer_reader) (.pair .str (.pair .str (.pair .bool .unit)))
theorem Pal_internal_stringslite_Cut_ok : SoundX Tryd.prog CX 64 (.f Pal_internal_stringslite_Cut) := sound_int Pal_sp9_ok Tryd.func64 (by kernel_rfl) rfl (.pair .str T_footer_reader) (.pair .str (.pair .str (.pair .bool .unit))) rfl rfl
noncomputable def Pal_sp10 : Specs := spCons 64 (.f Pal_internal_stringslite_Cut) Pal_sp9
theorem Pal_sp10_ok : ∀ g s, Pal_sp10 g = some s → SoundX Tryd.prog CX g s := spCons_ok Pal_internal_stringslite_Cut_ok Pal_sp9_ok
noncomputable def Pal_strings_Cut : Sp := intF Tryd.prog Pal_sp10 Tryd.f49 (.pair .str T_footer_reader) (.pair .str (.pair .str (.pair .bool .unit)))
theorem Pal_strings_Cut_ok : SoundX Tryd.prog CX 49 (.f Pal_strings_Cut) := sound_int Pal_sp10_ok Tryd.func49 (by kernel_rfl) rfl (.pair .str T_footer_reader) (.pair .str (.pair .str (.pair .bool .unit))) rfl rfl
noncomputable def Pal_sp11 : Specs := spCons 49 (.f Pal_strings_Cut) Pal_sp10
theorem Pal_sp11_ok : ∀ g s, Pal_sp11 g = some s → SoundX Tryd.prog CX g s := spCons_ok Pal_strings_Cut_ok Pal_sp10_ok
noncomputable def Pal_p_footer_reader_must : SpM := intM Tryd.prog Pal_sp11 Tryd.f50 [none] (.pair T_footer_reader .unit) (.pair (.ptr 0 0 T_footer_reader) (.pair .bool .unit)) .unit
theorem Pal_p_footer_reader_must_ok : SoundX Tryd.prog CX 50 (.m [Pal_p_footer_reader_must]) := sound_intM Pal_sp11_ok Tryd.func50 (by kernel_rfl) rfl [none] (.pair T_footer_reader .unit) (.pair (.ptr 0 0 T_footer_reader) (.pair .bool .unit)) .unit rfl
noncomputable def Pal_sp12 : Specs := spCons 50 (.m [Pal_p_footer_reader_must]) Pal_sp11
theorem Pal_sp12_ok : ∀ g s, Pal_sp12 g = some s → SoundX Tryd.prog CX g s := spCons_ok Pal_p_footer_reader_must_ok Pal_sp11_ok
noncomputable def Pal_footer_letters : Sp := intF Tryd.prog Pal_sp12 Tryd.f51 T_footer_reader (.pair .bool .unit)
theorem Pal_footer_letters_ok : SoundX Tryd.prog CX 51 (.f Pal_footer_letters) := sound_int Pal_sp12_ok Tryd.func51 (by kernel_rfl) rfl T_footer_reader (.pair .bool .unit) rfl rfl
noncomputable def Pal_sp13 : Specs := spCons 51 (.f Pal_footer_letters) Pal_sp12
theorem Pal_sp13_ok : ∀ g s, Pal_sp13 g = some s → SoundX Tryd.prog CX g s := spCons_ok Pal_footer_letters_ok Pal_sp12_ok
noncomputable def Pal_p_footer_reader_name : SpM := intM Tryd.prog Pal_sp13 Tryd.f32 [none] (.pair T_footer_reader .unit) (.pair (.ptr 0 0 T_footer_reader) .unit) T_footer_reader
theorem Pal_p_footer_reader_name_ok : SoundX Tryd.prog CX 32 (.m [Pal_p_footer_reader_name]) := sound_intM Pal_sp13_ok Tryd.func32 (by kernel_rfl) rfl [none] (.pair T_footer_reader .unit) (.pair (.ptr 0 0 T_footer_reader) .unit) T_footer_reader rfl
noncomputable def Pal_sp14 : Specs := spCons 32 (.m [Pal_p_footer_reader_name]) Pal_sp13
theorem Pal_sp14_ok : ∀ g s, Pal_sp14 g = some s → SoundX Tryd.prog CX g s := spCons_ok Pal_p_footer_reader_name_ok Pal_sp13_ok
noncomputable def Pal_p_footer_reader_number : SpM := intM Tryd.prog Pal_sp14 Tryd.f52 [none] (.pair T_footer_reader .unit) (.pair (.ptr 0 0 T_footer_reader) (.pair (.int .i64) .unit)) (.pair (.int .i64) .unit)
theorem Pal_p_footer_reader_number_ok : SoundX Tryd.prog CX 52 (.m [Pal_p_footer_reader_number]) := sound_intM Pal_sp14_ok Tryd.func52 (by kernel_rfl) rfl [none] (.pair T_footer_reader .unit) (.pair (.ptr 0 0 T_footer_reader) (.pair (.int .i64) .unit)) (.pair (.int .i64) .unit) rfl
noncomputable def Pal_sp15 : Specs := spCons 52 (.m [Pal_p_footer_reader_number]) Pal_sp14
theorem Pal_sp15_ok : ∀ g s, Pal_sp15 g = some s → SoundX Tryd.prog CX g s := spCons_ok Pal_p_footer_reader_number_ok Pal_sp14_ok
noncomputable def Pal_p_footer_reader_seconds : SpM := intM Tryd.prog Pal_sp15 Tryd.f33 [none] (.pair T_footer_reader .unit) (.pair (.ptr 0 0 T_footer_reader) .unit) (.pair (.int .i64) .unit)
theorem Pal_p_footer_reader_seconds_ok : SoundX Tryd.prog CX 33 (.m [Pal_p_footer_reader_seconds]) := sound_intM Pal_sp15_ok Tryd.func33 (by kernel_rfl) rfl [none] (.pair T_footer_reader .unit) (.pair (.ptr 0 0 T_footer_reader) .unit) (.pair (.int .i64) .unit) rfl
noncomputable def Pal_sp16 : Specs := spCons 33 (.m [Pal_p_footer_reader_seconds]) Pal_sp15
theorem Pal_sp16_ok : ∀ g s, Pal_sp16 g = some s → SoundX Tryd.prog CX g s := spCons_ok Pal_p_footer_reader_seconds_ok Pal_sp15_ok
noncomputable def Pal_strings_HasPrefix : Sp := intF Tryd.prog Pal_sp16 Tryd.f34 (.pair .str T_footer_reader) (.pair .bool .unit)
theorem Pal_strings_HasPrefix_ok : SoundX Tryd.prog CX 34 (.f Pal_strings_HasPrefix) := sound_int Pal_sp16_ok Tryd.func34 (by kernel_rfl) rfl (.pair .str T_footer_reader) (.pair .bool .unit) rfl rfl
noncomputable def Pal_sp17 : Specs := spCons 34 (.f Pal_strings_HasPrefix) Pal_sp16
theorem Pal_sp17_ok : ∀ g s, Pal_sp17 g = some s → SoundX Tryd.prog CX g s := spCons_ok Pal_strings_HasPrefix_ok Pal_sp16_ok
noncomputable def Pal_p_footer_reader_edge : SpM := intM Tryd.prog Pal_sp17 Tryd.f35 [none] (.pair T_footer_reader .unit) (.pair (.ptr 0 0 T_footer_reader) .unit) (.pair T_footer_Edge .unit)
theorem Pal_p_footer_reader_edge_ok : SoundX Tryd.prog CX 35 (.m [Pal_p_footer_reader_edge]) := sound_intM Pal_sp17_ok Tryd.func35 (by kernel_rfl) rfl [none] (.pair T_footer_reader .unit) (.pair (.ptr 0 0 T_footer_reader) .unit) (.pair T_footer_Edge .unit) rfl
noncomputable def Pal_sp18 : Specs := spCons 35 (.m [Pal_p_footer_reader_edge]) Pal_sp17
theorem Pal_sp18_ok : ∀ g s, Pal_sp18 g = some s → SoundX Tryd.prog CX g s := spCons_ok Pal_p_footer_reader_edge_ok Pal_sp17_ok
noncomputable def Pal_p_footer_reader_spec : SpM := intM Tryd.prog Pal_sp18 Tryd.f21 [none] (.pair T_footer_reader .unit) (.pair (.ptr 0 0 T_footer_reader) .unit) (.pair T_footer_Spec .unit)
theorem Pal_p_footer_reader_spec_ok : SoundX Tryd.prog CX 21 (.m [Pal_p_footer_reader_spec]) := sound_intM Pal_sp18_ok Tryd.func21 (by kernel_rfl) rfl [none] (.pair T_footer_reader .unit) (.pair (.ptr 0 0 T_footer_reader) .unit) (.pair T_footer_Spec .unit) rfl
noncomputable def Pal_sp19 : Specs := spCons 21 (.m [Pal_p_footer_reader_spec]) Pal_sp18
theorem Pal_sp19_ok : ∀ g s, Pal_sp19 g = some s → SoundX Tryd.prog CX g s := spCons_ok Pal_p_footer_reader_spec_ok Pal_sp18_ok
noncomputable def Pal_format_Plain : Sp := intF Tryd.prog Pal_sp19 Tryd.f24 T_footer_reader (.pair .bool .unit)
theorem Pal_format_Plain_ok : SoundX Tryd.prog CX 24 (.f Pal_format_Plain) := sound_int Pal_sp19_ok Tryd.func24 (by kernel_rfl) rfl T_footer_reader (.pair .bool .unit) rfl rfl
noncomputable def Pal_sp20 : Specs := spCons 24 (.f Pal_format_Plain) Pal_sp19
theorem Pal_sp20_ok : ∀ g s, Pal_sp20 g = some s → SoundX Tryd.prog CX g s := spCons_ok Pal_format_Plain_ok Pal_sp19_ok
noncomputable def Pal_footer_within : Sp := intF Tryd.prog Pal_sp20 Tryd.f25 (.pair (.int .i64) (.pair (.int .i64) (.pair (.int .i64) .unit))) (.pair .bool .unit)
theorem Pal_footer_within_ok : SoundX Tryd.prog CX 25 (.f Pal_footer_within) := sound_int Pal_sp20_ok Tryd.func25 (by kernel_rfl) rfl (.pair (.int .i64) (.pair (.int .i64) (.pair (.int .i64) .unit))) (.pair .bool .unit) rfl rfl
noncomputable def Pal_sp21 : Specs := spCons 25 (.f Pal_footer_within) Pal_sp20
theorem Pal_sp21_ok : ∀ g s, Pal_sp21 g = some s → SoundX Tryd.prog CX g s := spCons_ok Pal_footer_within_ok Pal_sp20_ok
noncomputable def Pal_footer_Edge_right : Sp := intF Tryd.prog Pal_sp21 Tryd.f26 (.pair T_footer_Edge .unit) (.pair .bool .unit)
theorem Pal_footer_Edge_right_ok : SoundX Tryd.prog CX 26 (.f Pal_footer_Edge_right) := sound_int Pal_sp21_ok Tryd.func26 (by kernel_rfl) rfl (.pair T_footer_Edge .unit) (.pair .bool .unit) rfl rfl
noncomputable def Pal_sp22 : Specs := spCons 26 (.f Pal_footer_Edge_right) Pal_sp21
theorem Pal_sp22_ok : ∀ g s, Pal_sp22 g = some s → SoundX Tryd.prog CX g s := spCons_ok Pal_footer_Edge_right_ok Pal_sp21_ok
noncomputable def Pal_footer_Right : Sp := intF Tryd.prog Pal_sp22 Tryd.f13 (.pair T_footer_Spec .unit) (.pair .bool .unit)
theorem Pal_footer_Right_ok : SoundX Tryd.prog CX 13 (.f Pal_footer_Right) := sound_int Pal_sp22_ok Tryd.func13 (by kernel_rfl) rfl (.pair T_footer_Spec .unit) (.pair .bool .unit) rfl rfl
noncomputable def Pal_sp23 : Specs := spCons 13 (.f Pal_footer_Right) Pal_sp22
theorem Pal_sp23_ok : ∀ g s, Pal_sp23 g = some s → SoundX Tryd.prog CX g s := spCons_ok Pal_footer_Right_ok Pal_sp22_ok
noncomputable def Pal_sp24 : Specs := spCons 65 (.m [wsM 79 5, wsM 81 5]) Pal_sp23
theorem Pal_sp24_ok : ∀ g s, Pal_sp24 g = some s → SoundX Tryd.prog CX g s := spCons_ok (sound_two (ws_sound (enter_of Tryd.func65 (by kernel_rfl) rfl) (bl_write (by unfold lies; kernel_rfl))) (sound_one (ws_sound (enter_of Tryd.func65 (by kernel_rfl) rfl) (bl_write (by unfold lies; kernel_rfl))))) Pal_sp23_ok
noncomputable def Pal_p_footer_writer_put : SpM := intM Tryd.prog Pal_sp24 Tryd.f54 [some 5, none] (.pair (.list (.int .u8)) (.pair (.bld 81 1 0) .unit)) (.pair (.ptr 1 0 (.bld 81 1 0)) (.pair (.list .str) .unit)) .unit
theorem Pal_p_footer_writer_put_ok : SoundX Tryd.prog CX 54 (.m [Pal_p_footer_writer_put]) := sound_intM Pal_sp24_ok Tryd.func54 (by kernel_rfl) rfl [some 5, none] (.pair (.list (.int .u8)) (.pair (.bld 81 1 0) .unit)) (.pair (.ptr 1 0 (.bld 81 1 0)) (.pair (.list .str) .unit)) .unit rfl
noncomputable def Pal_sp25 : Specs := spCons 54 (.m [Pal_p_footer_writer_put]) Pal_sp24
theorem Pal_sp25_ok : ∀ g s, Pal_sp25 g = some s → SoundX Tryd.prog CX g s := spCons_ok Pal_p_footer_writer_put_ok Pal_sp24_ok
noncomputable def Pal_p_footer_writer_name : SpM := intM Tryd.prog Pal_sp25 Tryd.f36 [some 5, none] (.pair (.list (.int .u8)) (.pair (.bld 81 1 0) .unit)) (.pair (.ptr 1 0 (.bld 81 1 0)) T_footer_reader) .unit
theorem Pal_p_footer_writer_name_ok : SoundX Tryd.prog CX 36 (.m [Pal_p_footer_writer_name]) := sound_intM Pal_sp25_ok Tryd.func36 (by kernel_rfl) rfl [some 5, none] (.pair (.list (.int .u8)) (.pair (.bld 81 1 0) .unit)) (.pair (.ptr 1 0 (.bld 81 1 0)) T_footer_reader) .unit rfl
noncomputable def Pal_sp26 : Specs := spCons 36 (.m [Pal_p_footer_writer_name]) Pal_sp25
theorem Pal_sp26_ok : ∀ g s, Pal_sp26 g = some s → SoundX Tryd.prog CX g s := spCons_ok Pal_p_footer_writer_name_ok Pal_sp25_ok
noncomputable def Pal_internal_strconv_small : Sp := intF Tryd.prog Pal_sp26 Tryd.f76 (.pair (.int .i64) .unit) T_footer_reader
theorem Pal_internal_strconv_small_ok : SoundX Tryd.prog CX 76 (.f Pal_internal_strconv_small) := sound_int Pal_sp26_ok Tryd.func76 (by kernel_rfl) rfl (.pair (.int .i64) .unit) T_footer_reader rfl rfl
noncomputable def Pal_sp27 : Specs := spCons 76 (.f Pal_internal_strconv_small) Pal_sp26
theorem Pal_sp27_ok : ∀ g s, Pal_sp27 g = some s → SoundX Tryd.prog CX g s := spCons_ok Pal_internal_strconv_small_ok Pal_sp26_ok
noncomputable def Pal_internal_strconv_log10Pow2 : Sp := intF Tryd.prog Pal_sp27 Tryd.f82 (.pair (.int .i64) .unit) (.pair (.int .i64) .unit)
theorem Pal_internal_strconv_log10Pow2_ok : SoundX Tryd.prog CX 82 (.f Pal_internal_strconv_log10Pow2) := sound_int Pal_sp27_ok Tryd.func82 (by kernel_rfl) rfl (.pair (.int .i64) .unit) (.pair (.int .i64) .unit) rfl rfl
noncomputable def Pal_sp28 : Specs := spCons 82 (.f Pal_internal_strconv_log10Pow2) Pal_sp27
theorem Pal_sp28_ok : ∀ g s, Pal_sp28 g = some s → SoundX Tryd.prog CX g s := spCons_ok Pal_internal_strconv_log10Pow2_ok Pal_sp27_ok
noncomputable def Pal_math_bits_Len64 : Sp := intF Tryd.prog Pal_sp28 Tryd.f83 (.pair (.int .u64) .unit) (.pair (.int .i64) .unit)
theorem Pal_math_bits_Len64_ok : SoundX Tryd.prog CX 83 (.f Pal_math_bits_Len64) := sound_int Pal_sp28_ok Tryd.func83 (by kernel_rfl) rfl (.pair (.int .u64) .unit) (.pair (.int .i64) .unit) rfl rfl
noncomputable def Pal_sp29 : Specs := spCons 83 (.f Pal_math_bits_Len64) Pal_sp28
theorem Pal_sp29_ok : ∀ g s, Pal_sp29 g = some s → SoundX Tryd.prog CX g s := spCons_ok Pal_math_bits_Len64_ok Pal_sp28_ok
noncomputable def Pal_internal_strconv_bool2_int : Sp := intF Tryd.prog Pal_sp29 Tryd.f84 (.pair .bool .unit) (.pair (.int .i64) .unit)
theorem Pal_internal_strconv_bool2_int_ok : SoundX Tryd.prog CX 84 (.f Pal_internal_strconv_bool2_int) := sound_int Pal_sp29_ok Tryd.func84 (by kernel_rfl) rfl (.pair .bool .unit) (.pair (.int .i64) .unit) rfl rfl
noncomputable def Pal_sp30 : Specs := spCons 84 (.f Pal_internal_strconv_bool2_int) Pal_sp29
theorem Pal_sp30_ok : ∀ g s, Pal_sp30 g = some s → SoundX Tryd.prog CX g s := spCons_ok Pal_internal_strconv_bool2_int_ok Pal_sp29_ok
noncomputable def Pal_internal_strconv_numDigits : Sp := intF Tryd.prog Pal_sp30 Tryd.f77 (.pair (.int .u64) .unit) (.pair (.int .i64) .unit)
theorem Pal_internal_strconv_numDigits_ok : SoundX Tryd.prog CX 77 (.f Pal_internal_strconv_numDigits) := sound_int Pal_sp30_ok Tryd.func77 (by kernel_rfl) rfl (.pair (.int .u64) .unit) (.pair (.int .i64) .unit) rfl rfl
noncomputable def Pal_sp31 : Specs := spCons 77 (.f Pal_internal_strconv_numDigits) Pal_sp30
theorem Pal_sp31_ok : ∀ g s, Pal_sp31 g = some s → SoundX Tryd.prog CX g s := spCons_ok Pal_internal_strconv_numDigits_ok Pal_sp30_ok
noncomputable def Pal_internal_strconv_formatBase10 : Sp := intF Tryd.prog Pal_sp31 Tryd.f78 (.pair (.list (.int .u8)) (.pair (.int .u64) .unit)) .unit
theorem Pal_internal_strconv_formatBase10_ok : SoundX Tryd.prog CX 78 (.f Pal_internal_strconv_formatBase10) := sound_int Pal_sp31_ok Tryd.func78 (by kernel_rfl) rfl (.pair (.list (.int .u8)) (.pair (.int .u64) .unit)) .unit rfl rfl
noncomputable def Pal_sp32 : Specs := spCons 78 (.f Pal_internal_strconv_formatBase10) Pal_sp31
theorem Pal_sp32_ok : ∀ g s, Pal_sp32 g = some s → SoundX Tryd.prog CX g s := spCons_ok Pal_internal_strconv_formatBase10_ok Pal_sp31_ok
noncomputable def Pal_internal_strconv_isPowerOfTwo : Sp := intF Tryd.prog Pal_sp32 Tryd.f85 (.pair (.int .i64) .unit) (.pair .bool .unit)
theorem Pal_internal_strconv_isPowerOfTwo_ok : SoundX Tryd.prog CX 85 (.f Pal_internal_strconv_isPowerOfTwo) := sound_int Pal_sp32_ok Tryd.func85 (by kernel_rfl) rfl (.pair (.int .i64) .unit) (.pair .bool .unit) rfl rfl
noncomputable def Pal_sp33 : Specs := spCons 85 (.f Pal_internal_strconv_isPowerOfTwo) Pal_sp32
theorem Pal_sp33_ok : ∀ g s, Pal_sp33 g = some s → SoundX Tryd.prog CX g s := spCons_ok Pal_internal_strconv_isPowerOfTwo_ok Pal_sp32_ok
noncomputable def Pal_math_bits_TrailingZeros32 : Sp := intF Tryd.prog Pal_sp33 Tryd.f87 (.pair (.int .u32) .unit) (.pair (.int .i64) .unit)
theorem Pal_math_bits_TrailingZeros32_ok : SoundX Tryd.prog CX 87 (.f Pal_math_bits_TrailingZeros32) := sound_int Pal_sp33_ok Tryd.func87 (by kernel_rfl) rfl (.pair (.int .u32) .unit) (.pair (.int .i64) .unit) rfl rfl
noncomputable def Pal_sp34 : Specs := spCons 87 (.f Pal_math_bits_TrailingZeros32) Pal_sp33
theorem Pal_sp34_ok : ∀ g s, Pal_sp34 g = some s → SoundX Tryd.prog CX g s := spCons_ok Pal_math_bits_TrailingZeros32_ok Pal_sp33_ok
noncomputable def Pal_math_bits_TrailingZeros64 : Sp := intF Tryd.prog Pal_sp34 Tryd.f88 (.pair (.int .u64) .unit) (.pair (.int .i64) .unit)
theorem Pal_math_bits_TrailingZeros64_ok : SoundX Tryd.prog CX 88 (.f Pal_math_bits_TrailingZeros64) := sound_int Pal_sp34_ok Tryd.func88 (by kernel_rfl) rfl (.pair (.int .u64) .unit) (.pair (.int .i64) .unit) rfl rfl
noncomputable def Pal_sp35 : Specs := spCons 88 (.f Pal_math_bits_TrailingZeros64) Pal_sp34
theorem Pal_sp35_ok : ∀ g s, Pal_sp35 g = some s → SoundX Tryd.prog CX g s := spCons_ok Pal_math_bits_TrailingZeros64_ok Pal_sp34_ok
noncomputable def Pal_math_bits_TrailingZeros : Sp := intF Tryd.prog Pal_sp35 Tryd.f86 (.pair (.int .u64) .unit) (.pair (.int .i64) .unit)
theorem Pal_math_bits_TrailingZeros_ok : SoundX Tryd.prog CX 86 (.f Pal_math_bits_TrailingZeros) := sound_int Pal_sp35_ok Tryd.func86 (by kernel_rfl) rfl (.pair (.int .u64) .unit) (.pair (.int .i64) .unit) rfl rfl
noncomputable def Pal_sp36 : Specs := spCons 86 (.f Pal_math_bits_TrailingZeros) Pal_sp35
theorem Pal_sp36_ok : ∀ g s, Pal_sp36 g = some s → SoundX Tryd.prog CX g s := spCons_ok Pal_math_bits_TrailingZeros_ok Pal_sp35_ok
noncomputable def Pal_internal_strconv_formatBits : Sp := intF Tryd.prog Pal_sp36 Tryd.f79 (.pair (.list (.int .u8)) (.pair (.int .u64) (.pair (.int .i64) (.pair .bool (.pair .bool .unit))))) (.pair (.list (.int .u8)) T_footer_reader)
theorem Pal_internal_strconv_formatBits_ok : SoundX Tryd.prog CX 79 (.f Pal_internal_strconv_formatBits) := sound_int Pal_sp36_ok Tryd.func79 (by kernel_rfl) rfl (.pair (.list (.int .u8)) (.pair (.int .u64) (.pair (.int .i64) (.pair .bool (.pair .bool .unit))))) (.pair (.list (.int .u8)) T_footer_reader) rfl rfl
noncomputable def Pal_sp37 : Specs := spCons 79 (.f Pal_internal_strconv_formatBits) Pal_sp36
theorem Pal_sp37_ok : ∀ g s, Pal_sp37 g = some s → SoundX Tryd.prog CX g s := spCons_ok Pal_internal_strconv_formatBits_ok Pal_sp36_ok
noncomputable def Pal_internal_strconv_FormatInt : Sp := intF Tryd.prog Pal_sp37 Tryd.f70 (.pair (.int .i64) (.pair (.int .i64) .unit)) T_footer_reader
theorem Pal_internal_strconv_FormatInt_ok : SoundX Tryd.prog CX 70 (.f Pal_internal_strconv_FormatInt) := sound_int Pal_sp37_ok Tryd.func70 (by kernel_rfl) rfl (.pair (.int .i64) (.pair (.int .i64) .unit)) T_footer_reader rfl rfl
noncomputable def Pal_sp38 : Specs := spCons 70 (.f Pal_internal_strconv_FormatInt) Pal_sp37
theorem Pal_sp38_ok : ∀ g s, Pal_sp38 g = some s → SoundX Tryd.prog CX g s := spCons_ok Pal_internal_strconv_FormatInt_ok Pal_sp37_ok
noncomputable def Pal_internal_strconv_Itoa : Sp := intF Tryd.prog Pal_sp38 Tryd.f66 (.pair (.int .i64) .unit) T_footer_reader
theorem Pal_internal_strconv_Itoa_ok : SoundX Tryd.prog CX 66 (.f Pal_internal_strconv_Itoa) := sound_int Pal_sp38_ok Tryd.func66 (by kernel_rfl) rfl (.pair (.int .i64) .unit) T_footer_reader rfl rfl
noncomputable def Pal_sp39 : Specs := spCons 66 (.f Pal_internal_strconv_Itoa) Pal_sp38
theorem Pal_sp39_ok : ∀ g s, Pal_sp39 g = some s → SoundX Tryd.prog CX g s := spCons_ok Pal_internal_strconv_Itoa_ok Pal_sp38_ok
noncomputable def Pal_strconv_Itoa : Sp := intF Tryd.prog Pal_sp39 Tryd.f55 (.pair (.int .i64) .unit) T_footer_reader
theorem Pal_strconv_Itoa_ok : SoundX Tryd.prog CX 55 (.f Pal_strconv_Itoa) := sound_int Pal_sp39_ok Tryd.func55 (by kernel_rfl) rfl (.pair (.int .i64) .unit) T_footer_reader rfl rfl
noncomputable def Pal_sp40 : Specs := spCons 55 (.f Pal_strconv_Itoa) Pal_sp39
theorem Pal_sp40_ok : ∀ g s, Pal_sp40 g = some s → SoundX Tryd.prog CX g s := spCons_ok Pal_strconv_Itoa_ok Pal_sp39_ok
noncomputable def Pal_p_footer_writer_two : SpM := intM Tryd.prog Pal_sp40 Tryd.f56 [some 5, none] (.pair (.list (.int .u8)) (.pair (.bld 81 1 0) .unit)) (.pair (.ptr 1 0 (.bld 81 1 0)) (.pair (.int .i64) .unit)) .unit
theorem Pal_p_footer_writer_two_ok : SoundX Tryd.prog CX 56 (.m [Pal_p_footer_writer_two]) := sound_intM Pal_sp40_ok Tryd.func56 (by kernel_rfl) rfl [some 5, none] (.pair (.list (.int .u8)) (.pair (.bld 81 1 0) .unit)) (.pair (.ptr 1 0 (.bld 81 1 0)) (.pair (.int .i64) .unit)) .unit rfl
noncomputable def Pal_sp41 : Specs := spCons 56 (.m [Pal_p_footer_writer_two]) Pal_sp40
theorem Pal_sp41_ok : ∀ g s, Pal_sp41 g = some s → SoundX Tryd.prog CX g s := spCons_ok Pal_p_footer_writer_two_ok Pal_sp40_ok
noncomputable def Pal_p_footer_writer_seconds : SpM := intM Tryd.prog Pal_sp41 Tryd.f37 [some 5, none] (.pair (.list (.int .u8)) (.pair (.bld 81 1 0) .unit)) (.pair (.ptr 1 0 (.bld 81 1 0)) (.pair (.int .i64) .unit)) .unit
theorem Pal_p_footer_writer_seconds_ok : SoundX Tryd.prog CX 37 (.m [Pal_p_footer_writer_seconds]) := sound_intM Pal_sp41_ok Tryd.func37 (by kernel_rfl) rfl [some 5, none] (.pair (.list (.int .u8)) (.pair (.bld 81 1 0) .unit)) (.pair (.ptr 1 0 (.bld 81 1 0)) (.pair (.int .i64) .unit)) .unit rfl
noncomputable def Pal_sp42 : Specs := spCons 37 (.m [Pal_p_footer_writer_seconds]) Pal_sp41
theorem Pal_sp42_ok : ∀ g s, Pal_sp42 g = some s → SoundX Tryd.prog CX g s := spCons_ok Pal_p_footer_writer_seconds_ok Pal_sp41_ok
noncomputable def Pal_p_footer_writer_edge : SpM := intM Tryd.prog Pal_sp42 Tryd.f38 [some 5, none] (.pair (.list (.int .u8)) (.pair (.bld 81 1 0) .unit)) (.pair (.ptr 1 0 (.bld 81 1 0)) (.pair T_footer_Edge .unit)) .unit
theorem Pal_p_footer_writer_edge_ok : SoundX Tryd.prog CX 38 (.m [Pal_p_footer_writer_edge]) := sound_intM Pal_sp42_ok Tryd.func38 (by kernel_rfl) rfl [some 5, none] (.pair (.list (.int .u8)) (.pair (.bld 81 1 0) .unit)) (.pair (.ptr 1 0 (.bld 81 1 0)) (.pair T_footer_Edge .unit)) .unit rfl
noncomputable def Pal_sp43 : Specs := spCons 38 (.m [Pal_p_footer_writer_edge]) Pal_sp42
theorem Pal_sp43_ok : ∀ g s, Pal_sp43 g = some s → SoundX Tryd.prog CX g s := spCons_ok Pal_p_footer_writer_edge_ok Pal_sp42_ok
noncomputable def Pal_sp44 : Specs := spCons 39 (.m [stM 79 5, stM 81 5]) Pal_sp43
theorem Pal_sp44_ok : ∀ g s, Pal_sp44 g = some s → SoundX Tryd.prog CX g s := spCons_ok (sound_two (st_sound (enter_of Tryd.func39 (by kernel_rfl) rfl) bl_string) (sound_one (st_sound (enter_of Tryd.func39 (by kernel_rfl) rfl) bl_string))) Pal_sp43_ok
noncomputable def Pal_footer_Show : Sp := intF Tryd.prog Pal_sp44 Tryd.f22 (.pair T_footer_Spec .unit) (.pair .str (.pair (.int .i64) .unit))
theorem Pal_footer_Show_ok : SoundX Tryd.prog CX 22 (.f Pal_footer_Show) := sound_int Pal_sp44_ok Tryd.func22 (by kernel_rfl) rfl (.pair T_footer_Spec .unit) (.pair .str (.pair (.int .i64) .unit)) rfl rfl
noncomputable def Pal_sp45 : Specs := spCons 22 (.f Pal_footer_Show) Pal_sp44
theorem Pal_sp45_ok : ∀ g s, Pal_sp45 g = some s → SoundX Tryd.prog CX g s := spCons_ok Pal_footer_Show_ok Pal_sp44_ok
noncomputable def Pal_footer_Parse : Sp := intD Tryd.prog Pal_sp45 Tryd.f11 6 20 T_footer_reader (.pair T_footer_Spec (.pair (.int .i64) .unit))
theorem Pal_footer_Parse_ok : SoundX Tryd.prog CX 11 (.f Pal_footer_Parse) := sound_intD (i := regId (cl (cr (bodyOf Tryd.f11)))) (df := opAt (cl (cr (bodyOf Tryd.f11))) 1) Pal_sp45_ok Tryd.func11 (by kernel_rfl) rfl rfl rfl rfl rfl
  (fun args w => rec_nothing (o1 := opAt (cl (bodyOf Tryd.f20)) 0) (o2 := opAt (cl (bodyOf Tryd.f20)) 1) (o3 := opAt (cl (cr (bodyOf Tryd.f20))) 0) (o4 := opAt (cl (cr (bodyOf Tryd.f20))) 1) Tryd.func20 rfl rfl rfl rfl rfl rfl rfl rfl rfl rfl rfl rfl rfl rfl Tryd.underlying20 (by decide) (by decide) (by decide) (by decide) args w) (enter_of Tryd.func20 (by kernel_rfl) rfl) T_footer_reader (.pair T_footer_Spec (.pair (.int .i64) .unit)) rfl rfl
theorem Pal_footer_Parse_val : Pal_footer_Parse.F 1000000 (⟨#[67,69,84,45,49,67,69,83,84,44,77,51,46,53,46,48,44,77,49,48,46,53,46,48,47,51]⟩, ()) = some ((⟨#[67,69,84]⟩, ((3600:Int), (⟨#[67,69,83,84]⟩, ((7200:Int), ((false,((0:Int),((3:Int),((5:Int),((7200:Int),()))))), ((false,((0:Int),((10:Int),((5:Int),((10800:Int),()))))), ())))))), ((0:Int), ())) := by kernel_rfl
theorem Pal_footer_Parse_ptok : SoundX Tryd.prog CX 11 (.f (ptS (.pair T_footer_Spec (.pair (.int .i64) .unit)) ⟨#[67,69,84,45,49,67,69,83,84,44,77,51,46,53,46,48,44,77,49,48,46,53,46,48,47,51]⟩ ((⟨#[67,69,84]⟩, ((3600:Int), (⟨#[67,69,83,84]⟩, ((7200:Int), ((false,((0:Int),((3:Int),((5:Int),((7200:Int),()))))), ((false,((0:Int),((10:Int),((5:Int),((10800:Int),()))))), ())))))), ((0:Int), ())))) := pt_intD (rs := (.pair T_footer_Spec (.pair (.int .i64) .unit))) Pal_footer_Parse_ok Pal_footer_Parse_val
noncomputable def Pal_sp46 : Specs := spCons 11 (.f (ptS (.pair T_footer_Spec (.pair (.int .i64) .unit)) ⟨#[67,69,84,45,49,67,69,83,84,44,77,51,46,53,46,48,44,77,49,48,46,53,46,48,47,51]⟩ ((⟨#[67,69,84]⟩, ((3600:Int), (⟨#[67,69,83,84]⟩, ((7200:Int), ((false,((0:Int),((3:Int),((5:Int),((7200:Int),()))))), ((false,((0:Int),((10:Int),((5:Int),((10800:Int),()))))), ())))))), ((0:Int), ())))) Pal_sp45
theorem Pal_sp46_ok : ∀ g s, Pal_sp46 g = some s → SoundX Tryd.prog CX g s := spCons_ok Pal_footer_Parse_ptok Pal_sp45_ok
noncomputable def Pal_civil_Leap : Sp := intF Tryd.prog Pal_sp46 Tryd.f60 (.pair (.int .i64) .unit) (.pair .bool .unit)
theorem Pal_civil_Leap_ok : SoundX Tryd.prog CX 60 (.f Pal_civil_Leap) := sound_int Pal_sp46_ok Tryd.func60 (by kernel_rfl) rfl (.pair (.int .i64) .unit) (.pair .bool .unit) rfl rfl
noncomputable def Pal_sp47 : Specs := spCons 60 (.f Pal_civil_Leap) Pal_sp46
theorem Pal_sp47_ok : ∀ g s, Pal_sp47 g = some s → SoundX Tryd.prog CX g s := spCons_ok Pal_civil_Leap_ok Pal_sp46_ok
noncomputable def Pal_civil_Long : Sp := intF Tryd.prog Pal_sp47 Tryd.f43 (.pair (.int .i64) (.pair (.int .i64) .unit)) (.pair (.int .i64) .unit)
theorem Pal_civil_Long_ok : SoundX Tryd.prog CX 43 (.f Pal_civil_Long) := sound_int Pal_sp47_ok Tryd.func43 (by kernel_rfl) rfl (.pair (.int .i64) (.pair (.int .i64) .unit)) (.pair (.int .i64) .unit) rfl rfl
noncomputable def Pal_sp48 : Specs := spCons 43 (.f Pal_civil_Long) Pal_sp47
theorem Pal_sp48_ok : ∀ g s, Pal_sp48 g = some s → SoundX Tryd.prog CX g s := spCons_ok Pal_civil_Long_ok Pal_sp47_ok
noncomputable def Pal_civil_Right : Sp := intF Tryd.prog Pal_sp48 Tryd.f58 (.pair (.int .i64) (.pair (.int .i64) (.pair (.int .i64) .unit))) (.pair .bool .unit)
theorem Pal_civil_Right_ok : SoundX Tryd.prog CX 58 (.f Pal_civil_Right) := sound_int Pal_sp48_ok Tryd.func58 (by kernel_rfl) rfl (.pair (.int .i64) (.pair (.int .i64) (.pair (.int .i64) .unit))) (.pair .bool .unit) rfl rfl
noncomputable def Pal_sp49 : Specs := spCons 58 (.f Pal_civil_Right) Pal_sp48
theorem Pal_sp49_ok : ∀ g s, Pal_sp49 g = some s → SoundX Tryd.prog CX g s := spCons_ok Pal_civil_Right_ok Pal_sp48_ok
noncomputable def Pal_civil_number : Sp := intF Tryd.prog Pal_sp49 Tryd.f59 (.pair (.int .i64) (.pair (.int .i64) (.pair (.int .i64) .unit))) (.pair (.int .i64) .unit)
theorem Pal_civil_number_ok : SoundX Tryd.prog CX 59 (.f Pal_civil_number) := sound_int Pal_sp49_ok Tryd.func59 (by kernel_rfl) rfl (.pair (.int .i64) (.pair (.int .i64) (.pair (.int .i64) .unit))) (.pair (.int .i64) .unit) rfl rfl
noncomputable def Pal_sp50 : Specs := spCons 59 (.f Pal_civil_number) Pal_sp49
theorem Pal_sp50_ok : ∀ g s, Pal_sp50 g = some s → SoundX Tryd.prog CX g s := spCons_ok Pal_civil_number_ok Pal_sp49_ok
noncomputable def Pal_civil_Days : Sp := intF Tryd.prog Pal_sp50 Tryd.f41 (.pair (.int .i64) (.pair (.int .i64) (.pair (.int .i64) .unit))) (.pair (.int .i64) (.pair (.int .i64) .unit))
theorem Pal_civil_Days_ok : SoundX Tryd.prog CX 41 (.f Pal_civil_Days) := sound_int Pal_sp50_ok Tryd.func41 (by kernel_rfl) rfl (.pair (.int .i64) (.pair (.int .i64) (.pair (.int .i64) .unit))) (.pair (.int .i64) (.pair (.int .i64) .unit)) rfl rfl
noncomputable def Pal_sp51 : Specs := spCons 41 (.f Pal_civil_Days) Pal_sp50
theorem Pal_sp51_ok : ∀ g s, Pal_sp51 g = some s → SoundX Tryd.prog CX g s := spCons_ok Pal_civil_Days_ok Pal_sp50_ok
noncomputable def Pal_civil_Date : Sp := intF Tryd.prog Pal_sp51 Tryd.f57 (.pair (.int .i64) .unit) (.pair (.int .i64) (.pair (.int .i64) (.pair (.int .i64) (.pair (.int .i64) .unit))))
theorem Pal_civil_Date_ok : SoundX Tryd.prog CX 57 (.f Pal_civil_Date) := sound_int Pal_sp51_ok Tryd.func57 (by kernel_rfl) rfl (.pair (.int .i64) .unit) (.pair (.int .i64) (.pair (.int .i64) (.pair (.int .i64) (.pair (.int .i64) .unit)))) rfl rfl
noncomputable def Pal_sp52 : Specs := spCons 57 (.f Pal_civil_Date) Pal_sp51
theorem Pal_sp52_ok : ∀ g s, Pal_sp52 g = some s → SoundX Tryd.prog CX g s := spCons_ok Pal_civil_Date_ok Pal_sp51_ok
noncomputable def Pal_posix_on : Sp := intF Tryd.prog Pal_sp52 Tryd.f40 (.pair T_footer_Edge .unit) (.pair (.int .i64) (.pair T_api_Day .unit))
theorem Pal_posix_on_ok : SoundX Tryd.prog CX 40 (.f Pal_posix_on) := sound_int Pal_sp52_ok Tryd.func40 (by kernel_rfl) rfl (.pair T_footer_Edge .unit) (.pair (.int .i64) (.pair T_api_Day .unit)) rfl rfl
noncomputable def Pal_sp53 : Specs := spCons 40 (.f Pal_posix_on) Pal_sp52
theorem Pal_sp53_ok : ∀ g s, Pal_sp53 g = some s → SoundX Tryd.prog CX g s := spCons_ok Pal_posix_on_ok Pal_sp52_ok
noncomputable def Pal_posix_spec_rule : Sp := intF Tryd.prog Pal_sp53 Tryd.f23 (.pair T_posix_spec (.pair T_footer_Edge T_api_At)) (.pair T_api_Rule .unit)
theorem Pal_posix_spec_rule_ok : SoundX Tryd.prog CX 23 (.f Pal_posix_spec_rule) := sound_int Pal_sp53_ok Tryd.func23 (by kernel_rfl) rfl (.pair T_posix_spec (.pair T_footer_Edge T_api_At)) (.pair T_api_Rule .unit) rfl rfl
noncomputable def Pal_sp54 : Specs := spCons 23 (.f Pal_posix_spec_rule) Pal_sp53
theorem Pal_sp54_ok : ∀ g s, Pal_sp54 g = some s → SoundX Tryd.prog CX g s := spCons_ok Pal_posix_spec_rule_ok Pal_sp53_ok
noncomputable def Pal_posix_Era : Sp := intF Tryd.prog Pal_sp54 Tryd.f12 (.pair T_footer_Spec (.pair (.int .i64) .unit)) (.pair T_api_Era (.pair (.list T_api_Rule) (.pair (.int .i64) .unit)))
theorem Pal_posix_Era_ok : SoundX Tryd.prog CX 12 (.f Pal_posix_Era) := sound_int Pal_sp54_ok Tryd.func12 (by kernel_rfl) rfl (.pair T_footer_Spec (.pair (.int .i64) .unit)) (.pair T_api_Era (.pair (.list T_api_Rule) (.pair (.int .i64) .unit))) rfl rfl
noncomputable def Pal_sp55 : Specs := spCons 12 (.f Pal_posix_Era) Pal_sp54
theorem Pal_sp55_ok : ∀ g s, Pal_sp55 g = some s → SoundX Tryd.prog CX g s := spCons_ok Pal_posix_Era_ok Pal_sp54_ok
noncomputable def Pal_noonmarklaw26_alive : Sp := intF Tryd.prog Pal_sp55 Tryd.f5 .unit (.pair .bool .unit)
theorem Pal_noonmarklaw26_alive_ok : SoundX Tryd.prog CX 5 (.f Pal_noonmarklaw26_alive) := sound_int Pal_sp55_ok Tryd.func5 (by kernel_rfl) rfl .unit (.pair .bool .unit) rfl rfl
noncomputable def Pal_sp56 : Specs := spCons 5 (.f Pal_noonmarklaw26_alive) Pal_sp55
theorem Pal_sp56_ok : ∀ g s, Pal_sp56 g = some s → SoundX Tryd.prog CX g s := spCons_ok Pal_noonmarklaw26_alive_ok Pal_sp55_ok
end Go.Proofs.YtedenojeljjnaaaDoorPi

set_option maxRecDepth 100000
set_option maxHeartbeats 4000000
namespace Go.Proofs.YtedenojeljjnaaaDoorPi
open Go Go.Proofs
def aliveF (_n : Nat) (_x : Unit) : Option (Bool × Unit) := some (true, ())
def aliveS : Sp := ⟨.unit, .pair .bool .unit, aliveF⟩
theorem alive_val : Pal_noonmarklaw26_alive.F 1000000 () = some (true, ()) := by kernel_rfl
theorem alive_okX : SoundX Tryd.prog CX 5 (.f aliveS) := pt_unit (rs := .pair .bool .unit) (r := (true, ())) Pal_noonmarklaw26_alive_ok alive_val
end Go.Proofs.YtedenojeljjnaaaDoorPi
