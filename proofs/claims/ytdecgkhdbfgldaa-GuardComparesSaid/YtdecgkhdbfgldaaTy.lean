/- Facts on the program's types and functions: printed by this session's own tool (wip/tool/gen.py). -/
import Derived.Test.YtdecgkhdbfgldaaSymQ
import Derived.Test.YtdecgkhdbfgldaaProg
set_option linter.unusedVariables false
set_option maxRecDepth 10000
namespace Go.Proofs.Ytdecgkhdbfgldaa
open Go
theorem by_func : Try.prog.bytesOf 1 = 8 := by kernel_rfl
theorem tf_func : tfB Try.prog 1 false 1 = true := by kernel_rfl
theorem zv_func : zvB Try.prog 1 = some (some [.nilFunc]) := by kernel_rfl
theorem us_func : (Try.prog.underlying 1).isSome = true := by kernel_rfl
theorem by_int64 : Try.prog.bytesOf 2 = 8 := by kernel_rfl
theorem tf_int64 : tfB Try.prog 2 false 1 = true := by kernel_rfl
theorem zv_int64 : zvB Try.prog 2 = some (some [.int .i64 0]) := by kernel_rfl
theorem ul_int64 : Try.prog.underlying 2 = some (.int .i64) := by kernel_rfl
theorem us_int64 : (Try.prog.underlying 2).isSome = true := by kernel_rfl
theorem by_int : Try.prog.bytesOf 3 = 8 := by kernel_rfl
theorem tf_int : tfB Try.prog 3 false 1 = true := by kernel_rfl
theorem zv_int : zvB Try.prog 3 = some (some [.int .i64 0]) := by kernel_rfl
theorem ul_int : Try.prog.underlying 3 = some (.int .i64) := by kernel_rfl
theorem us_int : (Try.prog.underlying 3).isSome = true := by kernel_rfl
theorem by_bool : Try.prog.bytesOf 4 = 1 := by kernel_rfl
theorem tf_bool : tfB Try.prog 4 false 1 = true := by kernel_rfl
theorem zv_bool : zvB Try.prog 4 = some (some [.bool false]) := by kernel_rfl
theorem ul_bool : Try.prog.underlying 4 = some .bool := by kernel_rfl
theorem us_bool : (Try.prog.underlying 4).isSome = true := by kernel_rfl
theorem by_uint8 : Try.prog.bytesOf 5 = 1 := by kernel_rfl
theorem tf_uint8 : tfB Try.prog 5 false 1 = true := by kernel_rfl
theorem zv_uint8 : zvB Try.prog 5 = some (some [.int .u8 0]) := by kernel_rfl
theorem ul_uint8 : Try.prog.underlying 5 = some (.int .u8) := by kernel_rfl
theorem us_uint8 : (Try.prog.underlying 5).isSome = true := by kernel_rfl
theorem by_abi_BoundsErrorCode : Try.prog.bytesOf 6 = 1 := by kernel_rfl
theorem tf_abi_BoundsErrorCode : tfB Try.prog 6 false 1 = true := by kernel_rfl
theorem zv_abi_BoundsErrorCode : zvB Try.prog 6 = some (some [.int .u8 0]) := by kernel_rfl
theorem ul_abi_BoundsErrorCode : Try.prog.underlying 6 = some (.int .u8) := by kernel_rfl
theorem us_abi_BoundsErrorCode : (Try.prog.underlying 6).isSome = true := by kernel_rfl
theorem by_struct_x_int64_y_int_signed_bool_code_abi_BoundsErrorCode : Try.prog.bytesOf 7 = 24 := by kernel_rfl
theorem tf_struct_x_int64_y_int_signed_bool_code_abi_BoundsErrorCode : tfB Try.prog 7 true 4 = true := by kernel_rfl
theorem fo_struct_x_int64_y_int_signed_bool_code_abi_BoundsErrorCode_0 : foB Try.prog 7 0 0 = true := by kernel_rfl
theorem ft_struct_x_int64_y_int_signed_bool_code_abi_BoundsErrorCode_0 : ftB Try.prog 7 0 0 2 = true := by kernel_rfl
theorem fo_struct_x_int64_y_int_signed_bool_code_abi_BoundsErrorCode_1 : foB Try.prog 7 1 1 = true := by kernel_rfl
theorem ft_struct_x_int64_y_int_signed_bool_code_abi_BoundsErrorCode_1 : ftB Try.prog 7 1 1 3 = true := by kernel_rfl
theorem fo_struct_x_int64_y_int_signed_bool_code_abi_BoundsErrorCode_2 : foB Try.prog 7 2 2 = true := by kernel_rfl
theorem ft_struct_x_int64_y_int_signed_bool_code_abi_BoundsErrorCode_2 : ftB Try.prog 7 2 2 4 = true := by kernel_rfl
theorem fo_struct_x_int64_y_int_signed_bool_code_abi_BoundsErrorCode_3 : foB Try.prog 7 3 3 = true := by kernel_rfl
theorem ft_struct_x_int64_y_int_signed_bool_code_abi_BoundsErrorCode_3 : ftB Try.prog 7 3 3 6 = true := by kernel_rfl
theorem st_struct_x_int64_y_int_signed_bool_code_abi_BoundsErrorCode : stB Try.prog 7 [(2, 0, 1), (3, 1, 1), (4, 2, 1), (6, 3, 1)] 4 = true := by kernel_rfl
theorem pl_struct_x_int64_y_int_signed_bool_code_abi_BoundsErrorCode : plB Try.prog 7 = some [(0, 1), (1, 1), (2, 1), (3, 1)] := by kernel_rfl
theorem zv_struct_x_int64_y_int_signed_bool_code_abi_BoundsErrorCode : zvB Try.prog 7 = some (some [.int .i64 0, .int .i64 0, .bool false, .int .u8 0]) := by kernel_rfl
theorem us_struct_x_int64_y_int_signed_bool_code_abi_BoundsErrorCode : (Try.prog.underlying 7).isSome = true := by kernel_rfl
theorem by_runtime_boundsError : Try.prog.bytesOf 8 = 24 := by kernel_rfl
theorem tf_runtime_boundsError : tfB Try.prog 8 true 4 = true := by kernel_rfl
theorem fo_runtime_boundsError_0 : foB Try.prog 8 0 0 = true := by kernel_rfl
theorem ft_runtime_boundsError_0 : ftB Try.prog 8 0 0 2 = true := by kernel_rfl
theorem fo_runtime_boundsError_1 : foB Try.prog 8 1 1 = true := by kernel_rfl
theorem ft_runtime_boundsError_1 : ftB Try.prog 8 1 1 3 = true := by kernel_rfl
theorem fo_runtime_boundsError_2 : foB Try.prog 8 2 2 = true := by kernel_rfl
theorem ft_runtime_boundsError_2 : ftB Try.prog 8 2 2 4 = true := by kernel_rfl
theorem fo_runtime_boundsError_3 : foB Try.prog 8 3 3 = true := by kernel_rfl
theorem ft_runtime_boundsError_3 : ftB Try.prog 8 3 3 6 = true := by kernel_rfl
theorem st_runtime_boundsError : stB Try.prog 8 [(2, 0, 1), (3, 1, 1), (4, 2, 1), (6, 3, 1)] 4 = true := by kernel_rfl
theorem pl_runtime_boundsError : plB Try.prog 8 = some [(0, 1), (1, 1), (2, 1), (3, 1)] := by kernel_rfl
theorem zv_runtime_boundsError : zvB Try.prog 8 = some (some [.int .i64 0, .int .i64 0, .bool false, .int .u8 0]) := by kernel_rfl
theorem us_runtime_boundsError : (Try.prog.underlying 8).isSome = true := by kernel_rfl
theorem by_string : Try.prog.bytesOf 9 = 16 := by kernel_rfl
theorem tf_string : tfB Try.prog 9 false 1 = true := by kernel_rfl
theorem zv_string : zvB Try.prog 9 = some (some [.string ⟨#[]⟩]) := by kernel_rfl
theorem ul_string : Try.prog.underlying 9 = some .string := by kernel_rfl
theorem us_string : (Try.prog.underlying 9).isSome = true := by kernel_rfl
theorem by_runtime_errorString : Try.prog.bytesOf 10 = 16 := by kernel_rfl
theorem tf_runtime_errorString : tfB Try.prog 10 false 1 = true := by kernel_rfl
theorem zv_runtime_errorString : zvB Try.prog 10 = some (some [.string ⟨#[]⟩]) := by kernel_rfl
theorem ul_runtime_errorString : Try.prog.underlying 10 = some .string := by kernel_rfl
theorem us_runtime_errorString : (Try.prog.underlying 10).isSome = true := by kernel_rfl
theorem by_runtime_plainError : Try.prog.bytesOf 11 = 16 := by kernel_rfl
theorem tf_runtime_plainError : tfB Try.prog 11 false 1 = true := by kernel_rfl
theorem zv_runtime_plainError : zvB Try.prog 11 = some (some [.string ⟨#[]⟩]) := by kernel_rfl
theorem ul_runtime_plainError : Try.prog.underlying 11 = some .string := by kernel_rfl
theorem us_runtime_plainError : (Try.prog.underlying 11).isSome = true := by kernel_rfl
theorem by_uintptr : Try.prog.bytesOf 12 = 8 := by kernel_rfl
theorem tf_uintptr : tfB Try.prog 12 false 1 = true := by kernel_rfl
theorem zv_uintptr : zvB Try.prog 12 = some (some [.int .u64 0]) := by kernel_rfl
theorem ul_uintptr : Try.prog.underlying 12 = some (.int .u64) := by kernel_rfl
theorem us_uintptr : (Try.prog.underlying 12).isSome = true := by kernel_rfl
theorem by_struct_msg_string_addr_uintptr : Try.prog.bytesOf 13 = 24 := by kernel_rfl
theorem tf_struct_msg_string_addr_uintptr : tfB Try.prog 13 true 2 = true := by kernel_rfl
theorem fo_struct_msg_string_addr_uintptr_0 : foB Try.prog 13 0 0 = true := by kernel_rfl
theorem ft_struct_msg_string_addr_uintptr_0 : ftB Try.prog 13 0 0 9 = true := by kernel_rfl
theorem fo_struct_msg_string_addr_uintptr_1 : foB Try.prog 13 1 1 = true := by kernel_rfl
theorem ft_struct_msg_string_addr_uintptr_1 : ftB Try.prog 13 1 1 12 = true := by kernel_rfl
theorem st_struct_msg_string_addr_uintptr : stB Try.prog 13 [(9, 0, 1), (12, 1, 1)] 2 = true := by kernel_rfl
theorem pl_struct_msg_string_addr_uintptr : plB Try.prog 13 = some [(0, 1), (1, 1)] := by kernel_rfl
theorem zv_struct_msg_string_addr_uintptr : zvB Try.prog 13 = some (some [.string ⟨#[]⟩, .int .u64 0]) := by kernel_rfl
theorem us_struct_msg_string_addr_uintptr : (Try.prog.underlying 13).isSome = true := by kernel_rfl
theorem by_runtime_errorAddressString : Try.prog.bytesOf 14 = 24 := by kernel_rfl
theorem tf_runtime_errorAddressString : tfB Try.prog 14 true 2 = true := by kernel_rfl
theorem fo_runtime_errorAddressString_0 : foB Try.prog 14 0 0 = true := by kernel_rfl
theorem ft_runtime_errorAddressString_0 : ftB Try.prog 14 0 0 9 = true := by kernel_rfl
theorem fo_runtime_errorAddressString_1 : foB Try.prog 14 1 1 = true := by kernel_rfl
theorem ft_runtime_errorAddressString_1 : ftB Try.prog 14 1 1 12 = true := by kernel_rfl
theorem st_runtime_errorAddressString : stB Try.prog 14 [(9, 0, 1), (12, 1, 1)] 2 = true := by kernel_rfl
theorem pl_runtime_errorAddressString : plB Try.prog 14 = some [(0, 1), (1, 1)] := by kernel_rfl
theorem zv_runtime_errorAddressString : zvB Try.prog 14 = some (some [.string ⟨#[]⟩, .int .u64 0]) := by kernel_rfl
theorem us_runtime_errorAddressString : (Try.prog.underlying 14).isSome = true := by kernel_rfl
theorem by_P_runtime_TypeAssertionError : Try.prog.bytesOf 15 = 8 := by kernel_rfl
theorem tf_P_runtime_TypeAssertionError : tfB Try.prog 15 false 1 = true := by kernel_rfl
theorem zv_P_runtime_TypeAssertionError : zvB Try.prog 15 = some (some [.pointer none]) := by kernel_rfl
theorem us_P_runtime_TypeAssertionError : (Try.prog.underlying 15).isSome = true := by kernel_rfl
theorem by_P_runtime_PanicNilError : Try.prog.bytesOf 16 = 8 := by kernel_rfl
theorem tf_P_runtime_PanicNilError : tfB Try.prog 16 false 1 = true := by kernel_rfl
theorem zv_P_runtime_PanicNilError : zvB Try.prog 16 = some (some [.pointer none]) := by kernel_rfl
theorem us_P_runtime_PanicNilError : (Try.prog.underlying 16).isSome = true := by kernel_rfl
theorem by_P_abi_Type : Try.prog.bytesOf 17 = 8 := by kernel_rfl
theorem tf_P_abi_Type : tfB Try.prog 17 false 1 = true := by kernel_rfl
theorem zv_P_abi_Type : zvB Try.prog 17 = some (some [.pointer none]) := by kernel_rfl
theorem us_P_abi_Type : (Try.prog.underlying 17).isSome = true := by kernel_rfl
theorem by_struct_typ_P_abi_Type : Try.prog.bytesOf 18 = 8 := by kernel_rfl
theorem tf_struct_typ_P_abi_Type : tfB Try.prog 18 true 1 = true := by kernel_rfl
theorem fo_struct_typ_P_abi_Type_0 : foB Try.prog 18 0 0 = true := by kernel_rfl
theorem ft_struct_typ_P_abi_Type_0 : ftB Try.prog 18 0 0 17 = true := by kernel_rfl
theorem st_struct_typ_P_abi_Type : stB Try.prog 18 [(17, 0, 1)] 1 = true := by kernel_rfl
theorem pl_struct_typ_P_abi_Type : plB Try.prog 18 = some [(0, 1)] := by kernel_rfl
theorem zv_struct_typ_P_abi_Type : zvB Try.prog 18 = some (some [.pointer none]) := by kernel_rfl
theorem us_struct_typ_P_abi_Type : (Try.prog.underlying 18).isSome = true := by kernel_rfl
theorem by_maps_unhashableTypeError : Try.prog.bytesOf 19 = 8 := by kernel_rfl
theorem tf_maps_unhashableTypeError : tfB Try.prog 19 true 1 = true := by kernel_rfl
theorem fo_maps_unhashableTypeError_0 : foB Try.prog 19 0 0 = true := by kernel_rfl
theorem ft_maps_unhashableTypeError_0 : ftB Try.prog 19 0 0 17 = true := by kernel_rfl
theorem st_maps_unhashableTypeError : stB Try.prog 19 [(17, 0, 1)] 1 = true := by kernel_rfl
theorem pl_maps_unhashableTypeError : plB Try.prog 19 = some [(0, 1)] := by kernel_rfl
theorem zv_maps_unhashableTypeError : zvB Try.prog 19 = some (some [.pointer none]) := by kernel_rfl
theorem us_maps_unhashableTypeError : (Try.prog.underlying 19).isSome = true := by kernel_rfl
theorem by_interface : Try.prog.bytesOf 20 = 16 := by kernel_rfl
theorem by_int32 : Try.prog.bytesOf 21 = 4 := by kernel_rfl
theorem tf_int32 : tfB Try.prog 21 false 1 = true := by kernel_rfl
theorem zv_int32 : zvB Try.prog 21 = some (some [.int .i32 0]) := by kernel_rfl
theorem ul_int32 : Try.prog.underlying 21 = some (.int .i32) := by kernel_rfl
theorem us_int32 : (Try.prog.underlying 21).isSome = true := by kernel_rfl
theorem by_S_api_Clause : Try.prog.bytesOf 22 = 24 := by kernel_rfl
theorem tf_S_api_Clause : tfB Try.prog 22 false 1 = true := by kernel_rfl
theorem zv_S_api_Clause : zvB Try.prog 22 = some (some [.slice none 0 0]) := by kernel_rfl
theorem sl_S_api_Clause : slB Try.prog 22 156 6 = true := by kernel_rfl
theorem ta_S_api_Clause : TyA Try.prog 22 156 6 104 := ⟨sl_S_api_Clause, ⟨.agg #[.int .i64 0, .string ⟨#[]⟩, .int .i64 0, .slice none 0 0, .slice none 0 0, .slice none 0 0], by kernel_rfl, rfl⟩, by decide⟩
theorem us_S_api_Clause : (Try.prog.underlying 22).isSome = true := by kernel_rfl
theorem by_S_api_Term : Try.prog.bytesOf 23 = 24 := by kernel_rfl
theorem tf_S_api_Term : tfB Try.prog 23 false 1 = true := by kernel_rfl
theorem zv_S_api_Term : zvB Try.prog 23 = some (some [.slice none 0 0]) := by kernel_rfl
theorem sl_S_api_Term : slB Try.prog 23 32 4 = true := by kernel_rfl
theorem ta_S_api_Term : TyA Try.prog 23 32 4 56 := ⟨sl_S_api_Term, ⟨.agg #[.int .i64 0, .string ⟨#[]⟩, .int .i64 0, .slice none 0 0], by kernel_rfl, rfl⟩, by decide⟩
theorem us_S_api_Term : (Try.prog.underlying 23).isSome = true := by kernel_rfl
theorem by_struct_C_S_api_Clause_K_S_api_Term_T_S_api_Term : Try.prog.bytesOf 24 = 72 := by kernel_rfl
theorem tf_struct_C_S_api_Clause_K_S_api_Term_T_S_api_Term : tfB Try.prog 24 true 3 = true := by kernel_rfl
theorem fo_struct_C_S_api_Clause_K_S_api_Term_T_S_api_Term_0 : foB Try.prog 24 0 0 = true := by kernel_rfl
theorem ft_struct_C_S_api_Clause_K_S_api_Term_T_S_api_Term_0 : ftB Try.prog 24 0 0 22 = true := by kernel_rfl
theorem fo_struct_C_S_api_Clause_K_S_api_Term_T_S_api_Term_1 : foB Try.prog 24 1 1 = true := by kernel_rfl
theorem ft_struct_C_S_api_Clause_K_S_api_Term_T_S_api_Term_1 : ftB Try.prog 24 1 1 23 = true := by kernel_rfl
theorem fo_struct_C_S_api_Clause_K_S_api_Term_T_S_api_Term_2 : foB Try.prog 24 2 2 = true := by kernel_rfl
theorem ft_struct_C_S_api_Clause_K_S_api_Term_T_S_api_Term_2 : ftB Try.prog 24 2 2 23 = true := by kernel_rfl
theorem st_struct_C_S_api_Clause_K_S_api_Term_T_S_api_Term : stB Try.prog 24 [(22, 0, 1), (23, 1, 1), (23, 2, 1)] 3 = true := by kernel_rfl
theorem pl_struct_C_S_api_Clause_K_S_api_Term_T_S_api_Term : plB Try.prog 24 = some [(0, 1), (1, 1), (2, 1)] := by kernel_rfl
theorem zv_struct_C_S_api_Clause_K_S_api_Term_T_S_api_Term : zvB Try.prog 24 = some (some [.slice none 0 0, .slice none 0 0, .slice none 0 0]) := by kernel_rfl
theorem us_struct_C_S_api_Clause_K_S_api_Term_T_S_api_Term : (Try.prog.underlying 24).isSome = true := by kernel_rfl
theorem by_almagestlaw11_Ask : Try.prog.bytesOf 25 = 72 := by kernel_rfl
theorem tf_almagestlaw11_Ask : tfB Try.prog 25 true 3 = true := by kernel_rfl
theorem fo_almagestlaw11_Ask_0 : foB Try.prog 25 0 0 = true := by kernel_rfl
theorem ft_almagestlaw11_Ask_0 : ftB Try.prog 25 0 0 22 = true := by kernel_rfl
theorem fo_almagestlaw11_Ask_1 : foB Try.prog 25 1 1 = true := by kernel_rfl
theorem ft_almagestlaw11_Ask_1 : ftB Try.prog 25 1 1 23 = true := by kernel_rfl
theorem fo_almagestlaw11_Ask_2 : foB Try.prog 25 2 2 = true := by kernel_rfl
theorem ft_almagestlaw11_Ask_2 : ftB Try.prog 25 2 2 23 = true := by kernel_rfl
theorem st_almagestlaw11_Ask : stB Try.prog 25 [(22, 0, 1), (23, 1, 1), (23, 2, 1)] 3 = true := by kernel_rfl
theorem pl_almagestlaw11_Ask : plB Try.prog 25 = some [(0, 1), (1, 1), (2, 1)] := by kernel_rfl
theorem zv_almagestlaw11_Ask : zvB Try.prog 25 = some (some [.slice none 0 0, .slice none 0 0, .slice none 0 0]) := by kernel_rfl
theorem us_almagestlaw11_Ask : (Try.prog.underlying 25).isSome = true := by kernel_rfl
theorem by_S_S_api_Bind : Try.prog.bytesOf 26 = 24 := by kernel_rfl
theorem tf_S_S_api_Bind : tfB Try.prog 26 false 1 = true := by kernel_rfl
theorem zv_S_S_api_Bind : zvB Try.prog 26 = some (some [.slice none 0 0]) := by kernel_rfl
theorem sl_S_S_api_Bind : slB Try.prog 26 62 1 = true := by kernel_rfl
theorem ta_S_S_api_Bind : TyA Try.prog 26 62 1 24 := ⟨sl_S_S_api_Bind, ⟨(.slice none 0 0 : Value), by kernel_rfl, rfl⟩, by decide⟩
theorem us_S_S_api_Bind : (Try.prog.underlying 26).isSome = true := by kernel_rfl
theorem by_S_api_Guard : Try.prog.bytesOf 27 = 24 := by kernel_rfl
theorem tf_S_api_Guard : tfB Try.prog 27 false 1 = true := by kernel_rfl
theorem zv_S_api_Guard : zvB Try.prog 27 = some (some [.slice none 0 0]) := by kernel_rfl
theorem sl_S_api_Guard : slB Try.prog 27 120 9 = true := by kernel_rfl
theorem ta_S_api_Guard : TyA Try.prog 27 120 9 120 := ⟨sl_S_api_Guard, ⟨.agg #[.int .i64 0, .int .i64 0, .string ⟨#[]⟩, .int .i64 0, .slice none 0 0, .int .i64 0, .string ⟨#[]⟩, .int .i64 0, .slice none 0 0], by kernel_rfl, rfl⟩, by decide⟩
theorem us_S_api_Guard : (Try.prog.underlying 27).isSome = true := by kernel_rfl
theorem by_struct_K_almagestlaw11_Ask_B_S_S_api_Bind_G_S_api_Guard : Try.prog.bytesOf 28 = 120 := by kernel_rfl
theorem tf_struct_K_almagestlaw11_Ask_B_S_S_api_Bind_G_S_api_Guard : tfB Try.prog 28 true 5 = true := by kernel_rfl
theorem fo_struct_K_almagestlaw11_Ask_B_S_S_api_Bind_G_S_api_Guard_0 : foB Try.prog 28 0 0 = true := by kernel_rfl
theorem ft_struct_K_almagestlaw11_Ask_B_S_S_api_Bind_G_S_api_Guard_0 : ftB Try.prog 28 0 0 25 = true := by kernel_rfl
theorem fo_struct_K_almagestlaw11_Ask_B_S_S_api_Bind_G_S_api_Guard_1 : foB Try.prog 28 1 3 = true := by kernel_rfl
theorem ft_struct_K_almagestlaw11_Ask_B_S_S_api_Bind_G_S_api_Guard_1 : ftB Try.prog 28 1 3 26 = true := by kernel_rfl
theorem fo_struct_K_almagestlaw11_Ask_B_S_S_api_Bind_G_S_api_Guard_2 : foB Try.prog 28 2 4 = true := by kernel_rfl
theorem ft_struct_K_almagestlaw11_Ask_B_S_S_api_Bind_G_S_api_Guard_2 : ftB Try.prog 28 2 4 27 = true := by kernel_rfl
theorem st_struct_K_almagestlaw11_Ask_B_S_S_api_Bind_G_S_api_Guard : stB Try.prog 28 [(25, 0, 3), (26, 3, 1), (27, 4, 1)] 5 = true := by kernel_rfl
theorem pl_struct_K_almagestlaw11_Ask_B_S_S_api_Bind_G_S_api_Guard : plB Try.prog 28 = some [(0, 3), (3, 1), (4, 1)] := by kernel_rfl
theorem zv_struct_K_almagestlaw11_Ask_B_S_S_api_Bind_G_S_api_Guard : zvB Try.prog 28 = some (some [.slice none 0 0, .slice none 0 0, .slice none 0 0, .slice none 0 0, .slice none 0 0]) := by kernel_rfl
theorem us_struct_K_almagestlaw11_Ask_B_S_S_api_Bind_G_S_api_Guard : (Try.prog.underlying 28).isSome = true := by kernel_rfl
theorem by_almagestlaw12_Ask : Try.prog.bytesOf 29 = 120 := by kernel_rfl
theorem tf_almagestlaw12_Ask : tfB Try.prog 29 true 5 = true := by kernel_rfl
theorem fo_almagestlaw12_Ask_0 : foB Try.prog 29 0 0 = true := by kernel_rfl
theorem ft_almagestlaw12_Ask_0 : ftB Try.prog 29 0 0 25 = true := by kernel_rfl
theorem fo_almagestlaw12_Ask_1 : foB Try.prog 29 1 3 = true := by kernel_rfl
theorem ft_almagestlaw12_Ask_1 : ftB Try.prog 29 1 3 26 = true := by kernel_rfl
theorem fo_almagestlaw12_Ask_2 : foB Try.prog 29 2 4 = true := by kernel_rfl
theorem ft_almagestlaw12_Ask_2 : ftB Try.prog 29 2 4 27 = true := by kernel_rfl
theorem st_almagestlaw12_Ask : stB Try.prog 29 [(25, 0, 3), (26, 3, 1), (27, 4, 1)] 5 = true := by kernel_rfl
theorem pl_almagestlaw12_Ask : plB Try.prog 29 = some [(0, 3), (3, 1), (4, 1)] := by kernel_rfl
theorem zv_almagestlaw12_Ask : zvB Try.prog 29 = some (some [.slice none 0 0, .slice none 0 0, .slice none 0 0, .slice none 0 0, .slice none 0 0]) := by kernel_rfl
theorem us_almagestlaw12_Ask : (Try.prog.underlying 29).isSome = true := by kernel_rfl
theorem by_func_almagestlaw12_Ask_bool : Try.prog.bytesOf 30 = 8 := by kernel_rfl
theorem tf_func_almagestlaw12_Ask_bool : tfB Try.prog 30 false 1 = true := by kernel_rfl
theorem zv_func_almagestlaw12_Ask_bool : zvB Try.prog 30 = some (some [.nilFunc]) := by kernel_rfl
theorem us_func_almagestlaw12_Ask_bool : (Try.prog.underlying 30).isSome = true := by kernel_rfl
theorem by_struct_Kind_int_Name_string_N_int_Args_S_api_Term : Try.prog.bytesOf 31 = 56 := by kernel_rfl
theorem tf_struct_Kind_int_Name_string_N_int_Args_S_api_Term : tfB Try.prog 31 true 4 = true := by kernel_rfl
theorem fo_struct_Kind_int_Name_string_N_int_Args_S_api_Term_0 : foB Try.prog 31 0 0 = true := by kernel_rfl
theorem ft_struct_Kind_int_Name_string_N_int_Args_S_api_Term_0 : ftB Try.prog 31 0 0 3 = true := by kernel_rfl
theorem fo_struct_Kind_int_Name_string_N_int_Args_S_api_Term_1 : foB Try.prog 31 1 1 = true := by kernel_rfl
theorem ft_struct_Kind_int_Name_string_N_int_Args_S_api_Term_1 : ftB Try.prog 31 1 1 9 = true := by kernel_rfl
theorem fo_struct_Kind_int_Name_string_N_int_Args_S_api_Term_2 : foB Try.prog 31 2 2 = true := by kernel_rfl
theorem ft_struct_Kind_int_Name_string_N_int_Args_S_api_Term_2 : ftB Try.prog 31 2 2 3 = true := by kernel_rfl
theorem fo_struct_Kind_int_Name_string_N_int_Args_S_api_Term_3 : foB Try.prog 31 3 3 = true := by kernel_rfl
theorem ft_struct_Kind_int_Name_string_N_int_Args_S_api_Term_3 : ftB Try.prog 31 3 3 23 = true := by kernel_rfl
theorem st_struct_Kind_int_Name_string_N_int_Args_S_api_Term : stB Try.prog 31 [(3, 0, 1), (9, 1, 1), (3, 2, 1), (23, 3, 1)] 4 = true := by kernel_rfl
theorem pl_struct_Kind_int_Name_string_N_int_Args_S_api_Term : plB Try.prog 31 = some [(0, 1), (1, 1), (2, 1), (3, 1)] := by kernel_rfl
theorem zv_struct_Kind_int_Name_string_N_int_Args_S_api_Term : zvB Try.prog 31 = some (some [.int .i64 0, .string ⟨#[]⟩, .int .i64 0, .slice none 0 0]) := by kernel_rfl
theorem us_struct_Kind_int_Name_string_N_int_Args_S_api_Term : (Try.prog.underlying 31).isSome = true := by kernel_rfl
theorem by_api_Term : Try.prog.bytesOf 32 = 56 := by kernel_rfl
theorem tf_api_Term : tfB Try.prog 32 true 4 = true := by kernel_rfl
theorem fo_api_Term_0 : foB Try.prog 32 0 0 = true := by kernel_rfl
theorem ft_api_Term_0 : ftB Try.prog 32 0 0 3 = true := by kernel_rfl
theorem fo_api_Term_1 : foB Try.prog 32 1 1 = true := by kernel_rfl
theorem ft_api_Term_1 : ftB Try.prog 32 1 1 9 = true := by kernel_rfl
theorem fo_api_Term_2 : foB Try.prog 32 2 2 = true := by kernel_rfl
theorem ft_api_Term_2 : ftB Try.prog 32 2 2 3 = true := by kernel_rfl
theorem fo_api_Term_3 : foB Try.prog 32 3 3 = true := by kernel_rfl
theorem ft_api_Term_3 : ftB Try.prog 32 3 3 23 = true := by kernel_rfl
theorem st_api_Term : stB Try.prog 32 [(3, 0, 1), (9, 1, 1), (3, 2, 1), (23, 3, 1)] 4 = true := by kernel_rfl
theorem pl_api_Term : plB Try.prog 32 = some [(0, 1), (1, 1), (2, 1), (3, 1)] := by kernel_rfl
theorem zv_api_Term : zvB Try.prog 32 = some (some [.int .i64 0, .string ⟨#[]⟩, .int .i64 0, .slice none 0 0]) := by kernel_rfl
theorem us_api_Term : (Try.prog.underlying 32).isSome = true := by kernel_rfl
theorem by_api_Errno : Try.prog.bytesOf 33 = 8 := by kernel_rfl
theorem tf_api_Errno : tfB Try.prog 33 false 1 = true := by kernel_rfl
theorem zv_api_Errno : zvB Try.prog 33 = some (some [.int .i64 0]) := by kernel_rfl
theorem ul_api_Errno : Try.prog.underlying 33 = some (.int .i64) := by kernel_rfl
theorem us_api_Errno : (Try.prog.underlying 33).isSome = true := by kernel_rfl
theorem by_bool_api_Errno : Try.prog.bytesOf 34 = 0 := by kernel_rfl
theorem by_func_int_api_Term_api_Term_bool_api_Errno : Try.prog.bytesOf 35 = 8 := by kernel_rfl
theorem tf_func_int_api_Term_api_Term_bool_api_Errno : tfB Try.prog 35 false 1 = true := by kernel_rfl
theorem zv_func_int_api_Term_api_Term_bool_api_Errno : zvB Try.prog 35 = some (some [.nilFunc]) := by kernel_rfl
theorem us_func_int_api_Term_api_Term_bool_api_Errno : (Try.prog.underlying 35).isSome = true := by kernel_rfl
theorem by_func_int_int_int_bool : Try.prog.bytesOf 36 = 8 := by kernel_rfl
theorem tf_func_int_int_int_bool : tfB Try.prog 36 false 1 = true := by kernel_rfl
theorem zv_func_int_int_int_bool : zvB Try.prog 36 = some (some [.nilFunc]) := by kernel_rfl
theorem us_func_int_int_int_bool : (Try.prog.underlying 36).isSome = true := by kernel_rfl
theorem by_func_api_Term_bool : Try.prog.bytesOf 37 = 8 := by kernel_rfl
theorem tf_func_api_Term_bool : tfB Try.prog 37 false 1 = true := by kernel_rfl
theorem zv_func_api_Term_bool : zvB Try.prog 37 = some (some [.nilFunc]) := by kernel_rfl
theorem us_func_api_Term_bool : (Try.prog.underlying 37).isSome = true := by kernel_rfl
theorem by_bool_bool : Try.prog.bytesOf 38 = 0 := by kernel_rfl
theorem by_func_int_api_Term_api_Term_bool_bool : Try.prog.bytesOf 39 = 8 := by kernel_rfl
theorem tf_func_int_api_Term_api_Term_bool_bool : tfB Try.prog 39 false 1 = true := by kernel_rfl
theorem zv_func_int_api_Term_api_Term_bool_bool : zvB Try.prog 39 = some (some [.nilFunc]) := by kernel_rfl
theorem us_func_int_api_Term_api_Term_bool_bool : (Try.prog.underlying 39).isSome = true := by kernel_rfl
theorem by_func_api_Errno_int : Try.prog.bytesOf 40 = 8 := by kernel_rfl
theorem tf_func_api_Errno_int : tfB Try.prog 40 false 1 = true := by kernel_rfl
theorem zv_func_api_Errno_int : zvB Try.prog 40 = some (some [.nilFunc]) := by kernel_rfl
theorem us_func_api_Errno_int : (Try.prog.underlying 40).isSome = true := by kernel_rfl
theorem by_func_bool : Try.prog.bytesOf 41 = 8 := by kernel_rfl
theorem tf_func_bool : tfB Try.prog 41 false 1 = true := by kernel_rfl
theorem zv_func_bool : zvB Try.prog 41 = some (some [.nilFunc]) := by kernel_rfl
theorem us_func_bool : (Try.prog.underlying 41).isSome = true := by kernel_rfl
theorem by_S_api_Kept : Try.prog.bytesOf 42 = 24 := by kernel_rfl
theorem tf_S_api_Kept : tfB Try.prog 42 false 1 = true := by kernel_rfl
theorem zv_S_api_Kept : zvB Try.prog 42 = some (some [.slice none 0 0]) := by kernel_rfl
theorem sl_S_api_Kept : slB Try.prog 42 114 7 = true := by kernel_rfl
theorem ta_S_api_Kept : TyA Try.prog 42 114 7 80 := ⟨sl_S_api_Kept, ⟨.agg #[.int .i64 0, .int .i64 0, .string ⟨#[]⟩, .int .i64 0, .slice none 0 0, .int .i64 0, .int .i64 0], by kernel_rfl, rfl⟩, by decide⟩
theorem us_S_api_Kept : (Try.prog.underlying 42).isSome = true := by kernel_rfl
theorem by_S_api_Fact : Try.prog.bytesOf 43 = 24 := by kernel_rfl
theorem tf_S_api_Fact : tfB Try.prog 43 false 1 = true := by kernel_rfl
theorem zv_S_api_Fact : zvB Try.prog 43 = some (some [.slice none 0 0]) := by kernel_rfl
theorem sl_S_api_Fact : slB Try.prog 43 53 6 = true := by kernel_rfl
theorem ta_S_api_Fact : TyA Try.prog 43 53 6 72 := ⟨sl_S_api_Fact, ⟨.agg #[.int .i64 0, .string ⟨#[]⟩, .int .i64 0, .slice none 0 0, .int .i64 0, .int .i64 0], by kernel_rfl, rfl⟩, by decide⟩
theorem us_S_api_Fact : (Try.prog.underlying 43).isSome = true := by kernel_rfl
theorem by_S_int : Try.prog.bytesOf 44 = 24 := by kernel_rfl
theorem tf_S_int : tfB Try.prog 44 false 1 = true := by kernel_rfl
theorem zv_S_int : zvB Try.prog 44 = some (some [.slice none 0 0]) := by kernel_rfl
theorem sl_S_int : slB Try.prog 44 3 1 = true := by kernel_rfl
theorem ta_S_int : TyA Try.prog 44 3 1 8 := ⟨sl_S_int, ⟨(.int .i64 0 : Value), by kernel_rfl, rfl⟩, by decide⟩
theorem us_S_int : (Try.prog.underlying 44).isSome = true := by kernel_rfl
theorem by_struct_L_S_api_Kept_F_S_api_Fact_N_S_int : Try.prog.bytesOf 45 = 72 := by kernel_rfl
theorem tf_struct_L_S_api_Kept_F_S_api_Fact_N_S_int : tfB Try.prog 45 true 3 = true := by kernel_rfl
theorem fo_struct_L_S_api_Kept_F_S_api_Fact_N_S_int_0 : foB Try.prog 45 0 0 = true := by kernel_rfl
theorem ft_struct_L_S_api_Kept_F_S_api_Fact_N_S_int_0 : ftB Try.prog 45 0 0 42 = true := by kernel_rfl
theorem fo_struct_L_S_api_Kept_F_S_api_Fact_N_S_int_1 : foB Try.prog 45 1 1 = true := by kernel_rfl
theorem ft_struct_L_S_api_Kept_F_S_api_Fact_N_S_int_1 : ftB Try.prog 45 1 1 43 = true := by kernel_rfl
theorem fo_struct_L_S_api_Kept_F_S_api_Fact_N_S_int_2 : foB Try.prog 45 2 2 = true := by kernel_rfl
theorem ft_struct_L_S_api_Kept_F_S_api_Fact_N_S_int_2 : ftB Try.prog 45 2 2 44 = true := by kernel_rfl
theorem st_struct_L_S_api_Kept_F_S_api_Fact_N_S_int : stB Try.prog 45 [(42, 0, 1), (43, 1, 1), (44, 2, 1)] 3 = true := by kernel_rfl
theorem pl_struct_L_S_api_Kept_F_S_api_Fact_N_S_int : plB Try.prog 45 = some [(0, 1), (1, 1), (2, 1)] := by kernel_rfl
theorem zv_struct_L_S_api_Kept_F_S_api_Fact_N_S_int : zvB Try.prog 45 = some (some [.slice none 0 0, .slice none 0 0, .slice none 0 0]) := by kernel_rfl
theorem us_struct_L_S_api_Kept_F_S_api_Fact_N_S_int : (Try.prog.underlying 45).isSome = true := by kernel_rfl
theorem by_almagestlaw9_Ask : Try.prog.bytesOf 46 = 72 := by kernel_rfl
theorem tf_almagestlaw9_Ask : tfB Try.prog 46 true 3 = true := by kernel_rfl
theorem fo_almagestlaw9_Ask_0 : foB Try.prog 46 0 0 = true := by kernel_rfl
theorem ft_almagestlaw9_Ask_0 : ftB Try.prog 46 0 0 42 = true := by kernel_rfl
theorem fo_almagestlaw9_Ask_1 : foB Try.prog 46 1 1 = true := by kernel_rfl
theorem ft_almagestlaw9_Ask_1 : ftB Try.prog 46 1 1 43 = true := by kernel_rfl
theorem fo_almagestlaw9_Ask_2 : foB Try.prog 46 2 2 = true := by kernel_rfl
theorem ft_almagestlaw9_Ask_2 : ftB Try.prog 46 2 2 44 = true := by kernel_rfl
theorem st_almagestlaw9_Ask : stB Try.prog 46 [(42, 0, 1), (43, 1, 1), (44, 2, 1)] 3 = true := by kernel_rfl
theorem pl_almagestlaw9_Ask : plB Try.prog 46 = some [(0, 1), (1, 1), (2, 1)] := by kernel_rfl
theorem zv_almagestlaw9_Ask : zvB Try.prog 46 = some (some [.slice none 0 0, .slice none 0 0, .slice none 0 0]) := by kernel_rfl
theorem us_almagestlaw9_Ask : (Try.prog.underlying 46).isSome = true := by kernel_rfl
theorem by_func_almagestlaw9_Ask_bool : Try.prog.bytesOf 47 = 8 := by kernel_rfl
theorem tf_func_almagestlaw9_Ask_bool : tfB Try.prog 47 false 1 = true := by kernel_rfl
theorem zv_func_almagestlaw9_Ask_bool : zvB Try.prog 47 = some (some [.nilFunc]) := by kernel_rfl
theorem us_func_almagestlaw9_Ask_bool : (Try.prog.underlying 47).isSome = true := by kernel_rfl
theorem by_int_api_Errno : Try.prog.bytesOf 48 = 0 := by kernel_rfl
theorem by_func_api_Fact_api_Fact_int_api_Errno : Try.prog.bytesOf 49 = 8 := by kernel_rfl
theorem tf_func_api_Fact_api_Fact_int_api_Errno : tfB Try.prog 49 false 1 = true := by kernel_rfl
theorem zv_func_api_Fact_api_Fact_int_api_Errno : zvB Try.prog 49 = some (some [.nilFunc]) := by kernel_rfl
theorem us_func_api_Fact_api_Fact_int_api_Errno : (Try.prog.underlying 49).isSome = true := by kernel_rfl
theorem by_struct_From_int_To_int : Try.prog.bytesOf 50 = 16 := by kernel_rfl
theorem tf_struct_From_int_To_int : tfB Try.prog 50 true 2 = true := by kernel_rfl
theorem fo_struct_From_int_To_int_0 : foB Try.prog 50 0 0 = true := by kernel_rfl
theorem ft_struct_From_int_To_int_0 : ftB Try.prog 50 0 0 3 = true := by kernel_rfl
theorem fo_struct_From_int_To_int_1 : foB Try.prog 50 1 1 = true := by kernel_rfl
theorem ft_struct_From_int_To_int_1 : ftB Try.prog 50 1 1 3 = true := by kernel_rfl
theorem st_struct_From_int_To_int : stB Try.prog 50 [(3, 0, 1), (3, 1, 1)] 2 = true := by kernel_rfl
theorem pl_struct_From_int_To_int : plB Try.prog 50 = some [(0, 1), (1, 1)] := by kernel_rfl
theorem zv_struct_From_int_To_int : zvB Try.prog 50 = some (some [.int .i64 0, .int .i64 0]) := by kernel_rfl
theorem us_struct_From_int_To_int : (Try.prog.underlying 50).isSome = true := by kernel_rfl
theorem by_api_Span : Try.prog.bytesOf 51 = 16 := by kernel_rfl
theorem tf_api_Span : tfB Try.prog 51 true 2 = true := by kernel_rfl
theorem fo_api_Span_0 : foB Try.prog 51 0 0 = true := by kernel_rfl
theorem ft_api_Span_0 : ftB Try.prog 51 0 0 3 = true := by kernel_rfl
theorem fo_api_Span_1 : foB Try.prog 51 1 1 = true := by kernel_rfl
theorem ft_api_Span_1 : ftB Try.prog 51 1 1 3 = true := by kernel_rfl
theorem st_api_Span : stB Try.prog 51 [(3, 0, 1), (3, 1, 1)] 2 = true := by kernel_rfl
theorem pl_api_Span : plB Try.prog 51 = some [(0, 1), (1, 1)] := by kernel_rfl
theorem zv_api_Span : zvB Try.prog 51 = some (some [.int .i64 0, .int .i64 0]) := by kernel_rfl
theorem us_api_Span : (Try.prog.underlying 51).isSome = true := by kernel_rfl
theorem by_struct_Term_api_Term_Span_api_Span : Try.prog.bytesOf 52 = 72 := by kernel_rfl
theorem tf_struct_Term_api_Term_Span_api_Span : tfB Try.prog 52 true 6 = true := by kernel_rfl
theorem fo_struct_Term_api_Term_Span_api_Span_0 : foB Try.prog 52 0 0 = true := by kernel_rfl
theorem ft_struct_Term_api_Term_Span_api_Span_0 : ftB Try.prog 52 0 0 32 = true := by kernel_rfl
theorem fo_struct_Term_api_Term_Span_api_Span_1 : foB Try.prog 52 1 4 = true := by kernel_rfl
theorem ft_struct_Term_api_Term_Span_api_Span_1 : ftB Try.prog 52 1 4 51 = true := by kernel_rfl
theorem st_struct_Term_api_Term_Span_api_Span : stB Try.prog 52 [(32, 0, 4), (51, 4, 2)] 6 = true := by kernel_rfl
theorem pl_struct_Term_api_Term_Span_api_Span : plB Try.prog 52 = some [(0, 4), (4, 2)] := by kernel_rfl
theorem zv_struct_Term_api_Term_Span_api_Span : zvB Try.prog 52 = some (some [.int .i64 0, .string ⟨#[]⟩, .int .i64 0, .slice none 0 0, .int .i64 0, .int .i64 0]) := by kernel_rfl
theorem us_struct_Term_api_Term_Span_api_Span : (Try.prog.underlying 52).isSome = true := by kernel_rfl
theorem by_api_Fact : Try.prog.bytesOf 53 = 72 := by kernel_rfl
theorem tf_api_Fact : tfB Try.prog 53 true 6 = true := by kernel_rfl
theorem fo_api_Fact_0 : foB Try.prog 53 0 0 = true := by kernel_rfl
theorem ft_api_Fact_0 : ftB Try.prog 53 0 0 32 = true := by kernel_rfl
theorem fo_api_Fact_1 : foB Try.prog 53 1 4 = true := by kernel_rfl
theorem ft_api_Fact_1 : ftB Try.prog 53 1 4 51 = true := by kernel_rfl
theorem st_api_Fact : stB Try.prog 53 [(32, 0, 4), (51, 4, 2)] 6 = true := by kernel_rfl
theorem pl_api_Fact : plB Try.prog 53 = some [(0, 4), (4, 2)] := by kernel_rfl
theorem zv_api_Fact : zvB Try.prog 53 = some (some [.int .i64 0, .string ⟨#[]⟩, .int .i64 0, .slice none 0 0, .int .i64 0, .int .i64 0]) := by kernel_rfl
theorem us_api_Fact : (Try.prog.underlying 53).isSome = true := by kernel_rfl
theorem by_func_api_Fact_bool : Try.prog.bytesOf 54 = 8 := by kernel_rfl
theorem tf_func_api_Fact_bool : tfB Try.prog 54 false 1 = true := by kernel_rfl
theorem zv_func_api_Fact_bool : zvB Try.prog 54 = some (some [.nilFunc]) := by kernel_rfl
theorem us_func_api_Fact_bool : (Try.prog.underlying 54).isSome = true := by kernel_rfl
theorem by_func_api_Fact_api_Fact_int : Try.prog.bytesOf 55 = 8 := by kernel_rfl
theorem tf_func_api_Fact_api_Fact_int : tfB Try.prog 55 false 1 = true := by kernel_rfl
theorem zv_func_api_Fact_api_Fact_int : zvB Try.prog 55 = some (some [.nilFunc]) := by kernel_rfl
theorem us_func_api_Fact_api_Fact_int : (Try.prog.underlying 55).isSome = true := by kernel_rfl
theorem by_func_api_Fact_api_Fact_bool : Try.prog.bytesOf 56 = 8 := by kernel_rfl
theorem tf_func_api_Fact_api_Fact_bool : tfB Try.prog 56 false 1 = true := by kernel_rfl
theorem zv_func_api_Fact_api_Fact_bool : zvB Try.prog 56 = some (some [.nilFunc]) := by kernel_rfl
theorem us_func_api_Fact_api_Fact_bool : (Try.prog.underlying 56).isSome = true := by kernel_rfl
theorem by_func_string_bool : Try.prog.bytesOf 57 = 8 := by kernel_rfl
theorem tf_func_string_bool : tfB Try.prog 57 false 1 = true := by kernel_rfl
theorem zv_func_string_bool : zvB Try.prog 57 = some (some [.nilFunc]) := by kernel_rfl
theorem us_func_string_bool : (Try.prog.underlying 57).isSome = true := by kernel_rfl
theorem by_S_string : Try.prog.bytesOf 58 = 24 := by kernel_rfl
theorem tf_S_string : tfB Try.prog 58 false 1 = true := by kernel_rfl
theorem zv_S_string : zvB Try.prog 58 = some (some [.slice none 0 0]) := by kernel_rfl
theorem sl_S_string : slB Try.prog 58 9 1 = true := by kernel_rfl
theorem ta_S_string : TyA Try.prog 58 9 1 16 := ⟨sl_S_string, ⟨(.string ⟨#[]⟩ : Value), by kernel_rfl, rfl⟩, by decide⟩
theorem us_S_string : (Try.prog.underlying 58).isSome = true := by kernel_rfl
theorem by_struct_B_S_S_api_Bind_T_S_api_Term_S_S_string : Try.prog.bytesOf 59 = 72 := by kernel_rfl
theorem tf_struct_B_S_S_api_Bind_T_S_api_Term_S_S_string : tfB Try.prog 59 true 3 = true := by kernel_rfl
theorem fo_struct_B_S_S_api_Bind_T_S_api_Term_S_S_string_0 : foB Try.prog 59 0 0 = true := by kernel_rfl
theorem ft_struct_B_S_S_api_Bind_T_S_api_Term_S_S_string_0 : ftB Try.prog 59 0 0 26 = true := by kernel_rfl
theorem fo_struct_B_S_S_api_Bind_T_S_api_Term_S_S_string_1 : foB Try.prog 59 1 1 = true := by kernel_rfl
theorem ft_struct_B_S_S_api_Bind_T_S_api_Term_S_S_string_1 : ftB Try.prog 59 1 1 23 = true := by kernel_rfl
theorem fo_struct_B_S_S_api_Bind_T_S_api_Term_S_S_string_2 : foB Try.prog 59 2 2 = true := by kernel_rfl
theorem ft_struct_B_S_S_api_Bind_T_S_api_Term_S_S_string_2 : ftB Try.prog 59 2 2 58 = true := by kernel_rfl
theorem st_struct_B_S_S_api_Bind_T_S_api_Term_S_S_string : stB Try.prog 59 [(26, 0, 1), (23, 1, 1), (58, 2, 1)] 3 = true := by kernel_rfl
theorem pl_struct_B_S_S_api_Bind_T_S_api_Term_S_S_string : plB Try.prog 59 = some [(0, 1), (1, 1), (2, 1)] := by kernel_rfl
theorem zv_struct_B_S_S_api_Bind_T_S_api_Term_S_S_string : zvB Try.prog 59 = some (some [.slice none 0 0, .slice none 0 0, .slice none 0 0]) := by kernel_rfl
theorem us_struct_B_S_S_api_Bind_T_S_api_Term_S_S_string : (Try.prog.underlying 59).isSome = true := by kernel_rfl
theorem by_almagestlaw2_Ask : Try.prog.bytesOf 60 = 72 := by kernel_rfl
theorem tf_almagestlaw2_Ask : tfB Try.prog 60 true 3 = true := by kernel_rfl
theorem fo_almagestlaw2_Ask_0 : foB Try.prog 60 0 0 = true := by kernel_rfl
theorem ft_almagestlaw2_Ask_0 : ftB Try.prog 60 0 0 26 = true := by kernel_rfl
theorem fo_almagestlaw2_Ask_1 : foB Try.prog 60 1 1 = true := by kernel_rfl
theorem ft_almagestlaw2_Ask_1 : ftB Try.prog 60 1 1 23 = true := by kernel_rfl
theorem fo_almagestlaw2_Ask_2 : foB Try.prog 60 2 2 = true := by kernel_rfl
theorem ft_almagestlaw2_Ask_2 : ftB Try.prog 60 2 2 58 = true := by kernel_rfl
theorem st_almagestlaw2_Ask : stB Try.prog 60 [(26, 0, 1), (23, 1, 1), (58, 2, 1)] 3 = true := by kernel_rfl
theorem pl_almagestlaw2_Ask : plB Try.prog 60 = some [(0, 1), (1, 1), (2, 1)] := by kernel_rfl
theorem zv_almagestlaw2_Ask : zvB Try.prog 60 = some (some [.slice none 0 0, .slice none 0 0, .slice none 0 0]) := by kernel_rfl
theorem us_almagestlaw2_Ask : (Try.prog.underlying 60).isSome = true := by kernel_rfl
theorem by_func_string_api_Term : Try.prog.bytesOf 61 = 8 := by kernel_rfl
theorem tf_func_string_api_Term : tfB Try.prog 61 false 1 = true := by kernel_rfl
theorem zv_func_string_api_Term : zvB Try.prog 61 = some (some [.nilFunc]) := by kernel_rfl
theorem us_func_string_api_Term : (Try.prog.underlying 61).isSome = true := by kernel_rfl
theorem by_S_api_Bind : Try.prog.bytesOf 62 = 24 := by kernel_rfl
theorem tf_S_api_Bind : tfB Try.prog 62 false 1 = true := by kernel_rfl
theorem zv_S_api_Bind : zvB Try.prog 62 = some (some [.slice none 0 0]) := by kernel_rfl
theorem sl_S_api_Bind : slB Try.prog 62 67 5 = true := by kernel_rfl
theorem ta_S_api_Bind : TyA Try.prog 62 67 5 72 := ⟨sl_S_api_Bind, ⟨.agg #[.string ⟨#[]⟩, .int .i64 0, .string ⟨#[]⟩, .int .i64 0, .slice none 0 0], by kernel_rfl, rfl⟩, by decide⟩
theorem us_S_api_Bind : (Try.prog.underlying 62).isSome = true := by kernel_rfl
theorem by_S_api_Bind_api_Errno : Try.prog.bytesOf 63 = 0 := by kernel_rfl
theorem by_func_S_api_Bind_api_Term_api_Term_S_api_Bind_api_Errno : Try.prog.bytesOf 64 = 8 := by kernel_rfl
theorem tf_func_S_api_Bind_api_Term_api_Term_S_api_Bind_api_Errno : tfB Try.prog 64 false 1 = true := by kernel_rfl
theorem zv_func_S_api_Bind_api_Term_api_Term_S_api_Bind_api_Errno : zvB Try.prog 64 = some (some [.nilFunc]) := by kernel_rfl
theorem us_func_S_api_Bind_api_Term_api_Term_S_api_Bind_api_Errno : (Try.prog.underlying 64).isSome = true := by kernel_rfl
theorem by_func_string_api_Term_api_Term : Try.prog.bytesOf 65 = 8 := by kernel_rfl
theorem tf_func_string_api_Term_api_Term : tfB Try.prog 65 false 1 = true := by kernel_rfl
theorem zv_func_string_api_Term_api_Term : zvB Try.prog 65 = some (some [.nilFunc]) := by kernel_rfl
theorem us_func_string_api_Term_api_Term : (Try.prog.underlying 65).isSome = true := by kernel_rfl
theorem by_struct_Name_string_Term_api_Term : Try.prog.bytesOf 66 = 72 := by kernel_rfl
theorem tf_struct_Name_string_Term_api_Term : tfB Try.prog 66 true 5 = true := by kernel_rfl
theorem fo_struct_Name_string_Term_api_Term_0 : foB Try.prog 66 0 0 = true := by kernel_rfl
theorem ft_struct_Name_string_Term_api_Term_0 : ftB Try.prog 66 0 0 9 = true := by kernel_rfl
theorem fo_struct_Name_string_Term_api_Term_1 : foB Try.prog 66 1 1 = true := by kernel_rfl
theorem ft_struct_Name_string_Term_api_Term_1 : ftB Try.prog 66 1 1 32 = true := by kernel_rfl
theorem st_struct_Name_string_Term_api_Term : stB Try.prog 66 [(9, 0, 1), (32, 1, 4)] 5 = true := by kernel_rfl
theorem pl_struct_Name_string_Term_api_Term : plB Try.prog 66 = some [(0, 1), (1, 4)] := by kernel_rfl
theorem zv_struct_Name_string_Term_api_Term : zvB Try.prog 66 = some (some [.string ⟨#[]⟩, .int .i64 0, .string ⟨#[]⟩, .int .i64 0, .slice none 0 0]) := by kernel_rfl
theorem us_struct_Name_string_Term_api_Term : (Try.prog.underlying 66).isSome = true := by kernel_rfl
theorem by_api_Bind : Try.prog.bytesOf 67 = 72 := by kernel_rfl
theorem tf_api_Bind : tfB Try.prog 67 true 5 = true := by kernel_rfl
theorem fo_api_Bind_0 : foB Try.prog 67 0 0 = true := by kernel_rfl
theorem ft_api_Bind_0 : ftB Try.prog 67 0 0 9 = true := by kernel_rfl
theorem fo_api_Bind_1 : foB Try.prog 67 1 1 = true := by kernel_rfl
theorem ft_api_Bind_1 : ftB Try.prog 67 1 1 32 = true := by kernel_rfl
theorem st_api_Bind : stB Try.prog 67 [(9, 0, 1), (32, 1, 4)] 5 = true := by kernel_rfl
theorem pl_api_Bind : plB Try.prog 67 = some [(0, 1), (1, 4)] := by kernel_rfl
theorem zv_api_Bind : zvB Try.prog 67 = some (some [.string ⟨#[]⟩, .int .i64 0, .string ⟨#[]⟩, .int .i64 0, .slice none 0 0]) := by kernel_rfl
theorem us_api_Bind : (Try.prog.underlying 67).isSome = true := by kernel_rfl
theorem by_func_almagestlaw2_Ask_bool : Try.prog.bytesOf 68 = 8 := by kernel_rfl
theorem tf_func_almagestlaw2_Ask_bool : tfB Try.prog 68 false 1 = true := by kernel_rfl
theorem zv_func_almagestlaw2_Ask_bool : zvB Try.prog 68 = some (some [.nilFunc]) := by kernel_rfl
theorem us_func_almagestlaw2_Ask_bool : (Try.prog.underlying 68).isSome = true := by kernel_rfl
theorem by_func_api_Term_api_Term_bool : Try.prog.bytesOf 69 = 8 := by kernel_rfl
theorem tf_func_api_Term_api_Term_bool : tfB Try.prog 69 false 1 = true := by kernel_rfl
theorem zv_func_api_Term_api_Term_bool : zvB Try.prog 69 = some (some [.nilFunc]) := by kernel_rfl
theorem us_func_api_Term_api_Term_bool : (Try.prog.underlying 69).isSome = true := by kernel_rfl
theorem by_api_Term_api_Errno : Try.prog.bytesOf 70 = 0 := by kernel_rfl
theorem by_func_S_api_Bind_api_Term_api_Term_api_Errno : Try.prog.bytesOf 71 = 8 := by kernel_rfl
theorem tf_func_S_api_Bind_api_Term_api_Term_api_Errno : tfB Try.prog 71 false 1 = true := by kernel_rfl
theorem zv_func_S_api_Bind_api_Term_api_Term_api_Errno : zvB Try.prog 71 = some (some [.nilFunc]) := by kernel_rfl
theorem us_func_S_api_Bind_api_Term_api_Term_api_Errno : (Try.prog.underlying 71).isSome = true := by kernel_rfl
theorem by_func_S_api_Bind_string_api_Term_S_api_Bind_api_Errno : Try.prog.bytesOf 72 = 8 := by kernel_rfl
theorem tf_func_S_api_Bind_string_api_Term_S_api_Bind_api_Errno : tfB Try.prog 72 false 1 = true := by kernel_rfl
theorem zv_func_S_api_Bind_string_api_Term_S_api_Bind_api_Errno : zvB Try.prog 72 = some (some [.nilFunc]) := by kernel_rfl
theorem us_func_S_api_Bind_string_api_Term_S_api_Bind_api_Errno : (Try.prog.underlying 72).isSome = true := by kernel_rfl
theorem by_func_S_api_Bind_string_api_Term_api_Errno : Try.prog.bytesOf 73 = 8 := by kernel_rfl
theorem tf_func_S_api_Bind_string_api_Term_api_Errno : tfB Try.prog 73 false 1 = true := by kernel_rfl
theorem zv_func_S_api_Bind_string_api_Term_api_Errno : zvB Try.prog 73 = some (some [.nilFunc]) := by kernel_rfl
theorem us_func_S_api_Bind_string_api_Term_api_Errno : (Try.prog.underlying 73).isSome = true := by kernel_rfl
theorem by_func_S_api_Bind_api_Errno : Try.prog.bytesOf 74 = 8 := by kernel_rfl
theorem tf_func_S_api_Bind_api_Errno : tfB Try.prog 74 false 1 = true := by kernel_rfl
theorem zv_func_S_api_Bind_api_Errno : zvB Try.prog 74 = some (some [.nilFunc]) := by kernel_rfl
theorem us_func_S_api_Bind_api_Errno : (Try.prog.underlying 74).isSome = true := by kernel_rfl
theorem by_func_S_api_Bind_S_api_Bind_S_api_Bind_api_Errno : Try.prog.bytesOf 75 = 8 := by kernel_rfl
theorem tf_func_S_api_Bind_S_api_Bind_S_api_Bind_api_Errno : tfB Try.prog 75 false 1 = true := by kernel_rfl
theorem zv_func_S_api_Bind_S_api_Bind_S_api_Bind_api_Errno : zvB Try.prog 75 = some (some [.nilFunc]) := by kernel_rfl
theorem us_func_S_api_Bind_S_api_Bind_S_api_Bind_api_Errno : (Try.prog.underlying 75).isSome = true := by kernel_rfl
theorem by_func_S_api_Bind_S_api_Bind_bool : Try.prog.bytesOf 76 = 8 := by kernel_rfl
theorem tf_func_S_api_Bind_S_api_Bind_bool : tfB Try.prog 76 false 1 = true := by kernel_rfl
theorem zv_func_S_api_Bind_S_api_Bind_bool : zvB Try.prog 76 = some (some [.nilFunc]) := by kernel_rfl
theorem us_func_S_api_Bind_S_api_Bind_bool : (Try.prog.underlying 76).isSome = true := by kernel_rfl
theorem by_S_api_Kept_api_Errno : Try.prog.bytesOf 77 = 0 := by kernel_rfl
theorem by_func_S_api_Kept_int_api_Fact_S_api_Kept_api_Errno : Try.prog.bytesOf 78 = 8 := by kernel_rfl
theorem tf_func_S_api_Kept_int_api_Fact_S_api_Kept_api_Errno : tfB Try.prog 78 false 1 = true := by kernel_rfl
theorem zv_func_S_api_Kept_int_api_Fact_S_api_Kept_api_Errno : zvB Try.prog 78 = some (some [.nilFunc]) := by kernel_rfl
theorem us_func_S_api_Kept_int_api_Fact_S_api_Kept_api_Errno : (Try.prog.underlying 78).isSome = true := by kernel_rfl
theorem by_func_S_api_Kept_api_Fact_int_api_Errno : Try.prog.bytesOf 79 = 8 := by kernel_rfl
theorem tf_func_S_api_Kept_api_Fact_int_api_Errno : tfB Try.prog 79 false 1 = true := by kernel_rfl
theorem zv_func_S_api_Kept_api_Fact_int_api_Errno : zvB Try.prog 79 = some (some [.nilFunc]) := by kernel_rfl
theorem us_func_S_api_Kept_api_Fact_int_api_Errno : (Try.prog.underlying 79).isSome = true := by kernel_rfl
theorem by_S_api_Fact_api_Errno : Try.prog.bytesOf 80 = 0 := by kernel_rfl
theorem by_func_S_api_Kept_S_api_Fact_api_Errno : Try.prog.bytesOf 81 = 8 := by kernel_rfl
theorem tf_func_S_api_Kept_S_api_Fact_api_Errno : tfB Try.prog 81 false 1 = true := by kernel_rfl
theorem zv_func_S_api_Kept_S_api_Fact_api_Errno : zvB Try.prog 81 = some (some [.nilFunc]) := by kernel_rfl
theorem us_func_S_api_Kept_S_api_Fact_api_Errno : (Try.prog.underlying 81).isSome = true := by kernel_rfl
theorem by_func_S_api_Guard_int : Try.prog.bytesOf 82 = 8 := by kernel_rfl
theorem tf_func_S_api_Guard_int : tfB Try.prog 82 false 1 = true := by kernel_rfl
theorem zv_func_S_api_Guard_int : zvB Try.prog 82 = some (some [.nilFunc]) := by kernel_rfl
theorem us_func_S_api_Guard_int : (Try.prog.underlying 82).isSome = true := by kernel_rfl
theorem by_func_S_api_Bind_int : Try.prog.bytesOf 83 = 8 := by kernel_rfl
theorem tf_func_S_api_Bind_int : tfB Try.prog 83 false 1 = true := by kernel_rfl
theorem zv_func_S_api_Bind_int : zvB Try.prog 83 = some (some [.nilFunc]) := by kernel_rfl
theorem us_func_S_api_Bind_int : (Try.prog.underlying 83).isSome = true := by kernel_rfl
theorem by_func_almagestlaw11_Ask_bool : Try.prog.bytesOf 84 = 8 := by kernel_rfl
theorem tf_func_almagestlaw11_Ask_bool : tfB Try.prog 84 false 1 = true := by kernel_rfl
theorem zv_func_almagestlaw11_Ask_bool : zvB Try.prog 84 = some (some [.nilFunc]) := by kernel_rfl
theorem us_func_almagestlaw11_Ask_bool : (Try.prog.underlying 84).isSome = true := by kernel_rfl
theorem by_func_int_api_Term_api_Term_bool : Try.prog.bytesOf 85 = 8 := by kernel_rfl
theorem tf_func_int_api_Term_api_Term_bool : tfB Try.prog 85 false 1 = true := by kernel_rfl
theorem zv_func_int_api_Term_api_Term_bool : zvB Try.prog 85 = some (some [.nilFunc]) := by kernel_rfl
theorem us_func_int_api_Term_api_Term_bool : (Try.prog.underlying 85).isSome = true := by kernel_rfl
theorem by_func_api_Term_int_int : Try.prog.bytesOf 86 = 8 := by kernel_rfl
theorem tf_func_api_Term_int_int : tfB Try.prog 86 false 1 = true := by kernel_rfl
theorem zv_func_api_Term_int_int : zvB Try.prog 86 = some (some [.nilFunc]) := by kernel_rfl
theorem us_func_api_Term_int_int : (Try.prog.underlying 86).isSome = true := by kernel_rfl
theorem by_func_api_Term_S_string : Try.prog.bytesOf 87 = 8 := by kernel_rfl
theorem tf_func_api_Term_S_string : tfB Try.prog 87 false 1 = true := by kernel_rfl
theorem zv_func_api_Term_S_string : zvB Try.prog 87 = some (some [.nilFunc]) := by kernel_rfl
theorem us_func_api_Term_S_string : (Try.prog.underlying 87).isSome = true := by kernel_rfl
theorem by_func_S_api_Kept_int : Try.prog.bytesOf 88 = 8 := by kernel_rfl
theorem tf_func_S_api_Kept_int : tfB Try.prog 88 false 1 = true := by kernel_rfl
theorem zv_func_S_api_Kept_int : zvB Try.prog 88 = some (some [.nilFunc]) := by kernel_rfl
theorem us_func_S_api_Kept_int : (Try.prog.underlying 88).isSome = true := by kernel_rfl
theorem by_func_api_Span_bool : Try.prog.bytesOf 89 = 8 := by kernel_rfl
theorem tf_func_api_Span_bool : tfB Try.prog 89 false 1 = true := by kernel_rfl
theorem zv_func_api_Span_bool : zvB Try.prog 89 = some (some [.nilFunc]) := by kernel_rfl
theorem us_func_api_Span_bool : (Try.prog.underlying 89).isSome = true := by kernel_rfl
theorem by_func_api_Term_api_Term_int : Try.prog.bytesOf 90 = 8 := by kernel_rfl
theorem tf_func_api_Term_api_Term_int : tfB Try.prog 90 false 1 = true := by kernel_rfl
theorem zv_func_api_Term_api_Term_int : zvB Try.prog 90 = some (some [.nilFunc]) := by kernel_rfl
theorem us_func_api_Term_api_Term_int : (Try.prog.underlying 90).isSome = true := by kernel_rfl
theorem by_func_int_int_int : Try.prog.bytesOf 91 = 8 := by kernel_rfl
theorem tf_func_int_int_int : tfB Try.prog 91 false 1 = true := by kernel_rfl
theorem zv_func_int_int_int : zvB Try.prog 91 = some (some [.nilFunc]) := by kernel_rfl
theorem us_func_int_int_int : (Try.prog.underlying 91).isSome = true := by kernel_rfl
theorem by_func_string_uint8_uint8_bool : Try.prog.bytesOf 92 = 8 := by kernel_rfl
theorem tf_func_string_uint8_uint8_bool : tfB Try.prog 92 false 1 = true := by kernel_rfl
theorem zv_func_string_uint8_uint8_bool : zvB Try.prog 92 = some (some [.nilFunc]) := by kernel_rfl
theorem us_func_string_uint8_uint8_bool : (Try.prog.underlying 92).isSome = true := by kernel_rfl
theorem by_func_S_api_Bind_bool : Try.prog.bytesOf 93 = 8 := by kernel_rfl
theorem tf_func_S_api_Bind_bool : tfB Try.prog 93 false 1 = true := by kernel_rfl
theorem zv_func_S_api_Bind_bool : zvB Try.prog 93 = some (some [.nilFunc]) := by kernel_rfl
theorem us_func_S_api_Bind_bool : (Try.prog.underlying 93).isSome = true := by kernel_rfl
theorem by_func_S_api_Bind_S_api_Bind : Try.prog.bytesOf 94 = 8 := by kernel_rfl
theorem tf_func_S_api_Bind_S_api_Bind : tfB Try.prog 94 false 1 = true := by kernel_rfl
theorem zv_func_S_api_Bind_S_api_Bind : zvB Try.prog 94 = some (some [.nilFunc]) := by kernel_rfl
theorem us_func_S_api_Bind_S_api_Bind : (Try.prog.underlying 94).isSome = true := by kernel_rfl
theorem by_2_api_Term : Try.prog.bytesOf 95 = 112 := by kernel_rfl
theorem tf_2_api_Term : tfB Try.prog 95 true 8 = true := by kernel_rfl
theorem zv_2_api_Term : zvB Try.prog 95 = some (some [.int .i64 0, .string ⟨#[]⟩, .int .i64 0, .slice none 0 0, .int .i64 0, .string ⟨#[]⟩, .int .i64 0, .slice none 0 0]) := by kernel_rfl
theorem us_2_api_Term : (Try.prog.underlying 95).isSome = true := by kernel_rfl
theorem by_unify_pair : Try.prog.bytesOf 96 = 112 := by kernel_rfl
theorem tf_unify_pair : tfB Try.prog 96 true 8 = true := by kernel_rfl
theorem zv_unify_pair : zvB Try.prog 96 = some (some [.int .i64 0, .string ⟨#[]⟩, .int .i64 0, .slice none 0 0, .int .i64 0, .string ⟨#[]⟩, .int .i64 0, .slice none 0 0]) := by kernel_rfl
theorem us_unify_pair : (Try.prog.underlying 96).isSome = true := by kernel_rfl
theorem by_S_unify_pair : Try.prog.bytesOf 97 = 24 := by kernel_rfl
theorem tf_S_unify_pair : tfB Try.prog 97 false 1 = true := by kernel_rfl
theorem zv_S_unify_pair : zvB Try.prog 97 = some (some [.slice none 0 0]) := by kernel_rfl
theorem sl_S_unify_pair : slB Try.prog 97 96 8 = true := by kernel_rfl
theorem ta_S_unify_pair : TyA Try.prog 97 96 8 112 := ⟨sl_S_unify_pair, ⟨.agg #[.int .i64 0, .string ⟨#[]⟩, .int .i64 0, .slice none 0 0, .int .i64 0, .string ⟨#[]⟩, .int .i64 0, .slice none 0 0], by kernel_rfl, rfl⟩, by decide⟩
theorem us_S_unify_pair : (Try.prog.underlying 97).isSome = true := by kernel_rfl
theorem by_S_api_Bind_S_unify_pair_api_Errno : Try.prog.bytesOf 98 = 0 := by kernel_rfl
theorem by_func_S_api_Bind_unify_pair_S_api_Bind_S_e4a0581f : Try.prog.bytesOf 99 = 8 := by kernel_rfl
theorem tf_func_S_api_Bind_unify_pair_S_api_Bind_S_e4a0581f : tfB Try.prog 99 false 1 = true := by kernel_rfl
theorem zv_func_S_api_Bind_unify_pair_S_api_Bind_S_e4a0581f : zvB Try.prog 99 = some (some [.nilFunc]) := by kernel_rfl
theorem us_func_S_api_Bind_unify_pair_S_api_Bind_S_e4a0581f : (Try.prog.underlying 99).isSome = true := by kernel_rfl
theorem by_func_S_unify_pair_S_unify_pair : Try.prog.bytesOf 100 = 8 := by kernel_rfl
theorem tf_func_S_unify_pair_S_unify_pair : tfB Try.prog 100 false 1 = true := by kernel_rfl
theorem zv_func_S_unify_pair_S_unify_pair : zvB Try.prog 100 = some (some [.nilFunc]) := by kernel_rfl
theorem us_func_S_unify_pair_S_unify_pair : (Try.prog.underlying 100).isSome = true := by kernel_rfl
theorem by_func_S_api_Term_S_api_Term_bool : Try.prog.bytesOf 101 = 8 := by kernel_rfl
theorem tf_func_S_api_Term_S_api_Term_bool : tfB Try.prog 101 false 1 = true := by kernel_rfl
theorem zv_func_S_api_Term_S_api_Term_bool : zvB Try.prog 101 = some (some [.nilFunc]) := by kernel_rfl
theorem us_func_S_api_Term_S_api_Term_bool : (Try.prog.underlying 101).isSome = true := by kernel_rfl
theorem by_func_S_api_Term_int : Try.prog.bytesOf 102 = 8 := by kernel_rfl
theorem tf_func_S_api_Term_int : tfB Try.prog 102 false 1 = true := by kernel_rfl
theorem zv_func_S_api_Term_int : zvB Try.prog 102 = some (some [.nilFunc]) := by kernel_rfl
theorem us_func_S_api_Term_int : (Try.prog.underlying 102).isSome = true := by kernel_rfl
theorem by_func_S_string_int : Try.prog.bytesOf 103 = 8 := by kernel_rfl
theorem tf_func_S_string_int : tfB Try.prog 103 false 1 = true := by kernel_rfl
theorem zv_func_S_string_int : zvB Try.prog 103 = some (some [.nilFunc]) := by kernel_rfl
theorem us_func_S_string_int : (Try.prog.underlying 103).isSome = true := by kernel_rfl
theorem by_int_bool : Try.prog.bytesOf 104 = 0 := by kernel_rfl
theorem by_func_S_api_Bind_string_int_bool : Try.prog.bytesOf 105 = 8 := by kernel_rfl
theorem tf_func_S_api_Bind_string_int_bool : tfB Try.prog 105 false 1 = true := by kernel_rfl
theorem zv_func_S_api_Bind_string_int_bool : zvB Try.prog 105 = some (some [.nilFunc]) := by kernel_rfl
theorem us_func_S_api_Bind_string_int_bool : (Try.prog.underlying 105).isSome = true := by kernel_rfl
theorem by_func_S_string_func_string_bool_bool : Try.prog.bytesOf 106 = 8 := by kernel_rfl
theorem tf_func_S_string_func_string_bool_bool : tfB Try.prog 106 false 1 = true := by kernel_rfl
theorem zv_func_S_string_func_string_bool_bool : zvB Try.prog 106 = some (some [.nilFunc]) := by kernel_rfl
theorem us_func_S_string_func_string_bool_bool : (Try.prog.underlying 106).isSome = true := by kernel_rfl
theorem by_func_api_Term_S_string_107 : Try.prog.bytesOf 107 = 8 := by kernel_rfl
theorem tf_func_api_Term_S_string_107 : tfB Try.prog 107 false 1 = true := by kernel_rfl
theorem zv_func_api_Term_S_string_107 : zvB Try.prog 107 = some (some [.nilFunc]) := by kernel_rfl
theorem us_func_api_Term_S_string_107 : (Try.prog.underlying 107).isSome = true := by kernel_rfl
theorem by_api_Term_bool : Try.prog.bytesOf 108 = 0 := by kernel_rfl
theorem by_func_S_api_Bind_string_api_Term_bool : Try.prog.bytesOf 109 = 8 := by kernel_rfl
theorem tf_func_S_api_Bind_string_api_Term_bool : tfB Try.prog 109 false 1 = true := by kernel_rfl
theorem zv_func_S_api_Bind_string_api_Term_bool : zvB Try.prog 109 = some (some [.nilFunc]) := by kernel_rfl
theorem us_func_S_api_Bind_string_api_Term_bool : (Try.prog.underlying 109).isSome = true := by kernel_rfl
theorem by_func_api_Term_api_Term : Try.prog.bytesOf 110 = 8 := by kernel_rfl
theorem tf_func_api_Term_api_Term : tfB Try.prog 110 false 1 = true := by kernel_rfl
theorem zv_func_api_Term_api_Term : zvB Try.prog 110 = some (some [.nilFunc]) := by kernel_rfl
theorem us_func_api_Term_api_Term : (Try.prog.underlying 110).isSome = true := by kernel_rfl
theorem by_func_api_Bind_api_Bind_bool : Try.prog.bytesOf 111 = 8 := by kernel_rfl
theorem tf_func_api_Bind_api_Bind_bool : tfB Try.prog 111 false 1 = true := by kernel_rfl
theorem zv_func_api_Bind_api_Bind_bool : zvB Try.prog 111 = some (some [.nilFunc]) := by kernel_rfl
theorem us_func_api_Bind_api_Bind_bool : (Try.prog.underlying 111).isSome = true := by kernel_rfl
theorem by_func_S_api_Kept_bool : Try.prog.bytesOf 112 = 8 := by kernel_rfl
theorem tf_func_S_api_Kept_bool : tfB Try.prog 112 false 1 = true := by kernel_rfl
theorem zv_func_S_api_Kept_bool : zvB Try.prog 112 = some (some [.nilFunc]) := by kernel_rfl
theorem us_func_S_api_Kept_bool : (Try.prog.underlying 112).isSome = true := by kernel_rfl
theorem by_struct_Seq_int_Fact_api_Fact : Try.prog.bytesOf 113 = 80 := by kernel_rfl
theorem tf_struct_Seq_int_Fact_api_Fact : tfB Try.prog 113 true 7 = true := by kernel_rfl
theorem fo_struct_Seq_int_Fact_api_Fact_0 : foB Try.prog 113 0 0 = true := by kernel_rfl
theorem ft_struct_Seq_int_Fact_api_Fact_0 : ftB Try.prog 113 0 0 3 = true := by kernel_rfl
theorem fo_struct_Seq_int_Fact_api_Fact_1 : foB Try.prog 113 1 1 = true := by kernel_rfl
theorem ft_struct_Seq_int_Fact_api_Fact_1 : ftB Try.prog 113 1 1 53 = true := by kernel_rfl
theorem st_struct_Seq_int_Fact_api_Fact : stB Try.prog 113 [(3, 0, 1), (53, 1, 6)] 7 = true := by kernel_rfl
theorem pl_struct_Seq_int_Fact_api_Fact : plB Try.prog 113 = some [(0, 1), (1, 6)] := by kernel_rfl
theorem zv_struct_Seq_int_Fact_api_Fact : zvB Try.prog 113 = some (some [.int .i64 0, .int .i64 0, .string ⟨#[]⟩, .int .i64 0, .slice none 0 0, .int .i64 0, .int .i64 0]) := by kernel_rfl
theorem us_struct_Seq_int_Fact_api_Fact : (Try.prog.underlying 113).isSome = true := by kernel_rfl
theorem by_api_Kept : Try.prog.bytesOf 114 = 80 := by kernel_rfl
theorem tf_api_Kept : tfB Try.prog 114 true 7 = true := by kernel_rfl
theorem fo_api_Kept_0 : foB Try.prog 114 0 0 = true := by kernel_rfl
theorem ft_api_Kept_0 : ftB Try.prog 114 0 0 3 = true := by kernel_rfl
theorem fo_api_Kept_1 : foB Try.prog 114 1 1 = true := by kernel_rfl
theorem ft_api_Kept_1 : ftB Try.prog 114 1 1 53 = true := by kernel_rfl
theorem st_api_Kept : stB Try.prog 114 [(3, 0, 1), (53, 1, 6)] 7 = true := by kernel_rfl
theorem pl_api_Kept : plB Try.prog 114 = some [(0, 1), (1, 6)] := by kernel_rfl
theorem zv_api_Kept : zvB Try.prog 114 = some (some [.int .i64 0, .int .i64 0, .string ⟨#[]⟩, .int .i64 0, .slice none 0 0, .int .i64 0, .int .i64 0]) := by kernel_rfl
theorem us_api_Kept : (Try.prog.underlying 114).isSome = true := by kernel_rfl
theorem by_func_S_api_Kept_api_Fact_int : Try.prog.bytesOf 115 = 8 := by kernel_rfl
theorem tf_func_S_api_Kept_api_Fact_int : tfB Try.prog 115 false 1 = true := by kernel_rfl
theorem zv_func_S_api_Kept_api_Fact_int : zvB Try.prog 115 = some (some [.nilFunc]) := by kernel_rfl
theorem us_func_S_api_Kept_api_Fact_int : (Try.prog.underlying 115).isSome = true := by kernel_rfl
theorem by_func_S_api_Kept_S_api_Kept : Try.prog.bytesOf 116 = 8 := by kernel_rfl
theorem tf_func_S_api_Kept_S_api_Kept : tfB Try.prog 116 false 1 = true := by kernel_rfl
theorem zv_func_S_api_Kept_S_api_Kept : zvB Try.prog 116 = some (some [.nilFunc]) := by kernel_rfl
theorem us_func_S_api_Kept_S_api_Kept : (Try.prog.underlying 116).isSome = true := by kernel_rfl
theorem by_func_api_Fact_api_Fact : Try.prog.bytesOf 117 = 8 := by kernel_rfl
theorem tf_func_api_Fact_api_Fact : tfB Try.prog 117 false 1 = true := by kernel_rfl
theorem zv_func_api_Fact_api_Fact : zvB Try.prog 117 = some (some [.nilFunc]) := by kernel_rfl
theorem us_func_api_Fact_api_Fact : (Try.prog.underlying 117).isSome = true := by kernel_rfl
theorem by_func_S_api_Fact_func_api_Fact_api_Fact_int : Try.prog.bytesOf 118 = 8 := by kernel_rfl
theorem tf_func_S_api_Fact_func_api_Fact_api_Fact_int : tfB Try.prog 118 false 1 = true := by kernel_rfl
theorem zv_func_S_api_Fact_func_api_Fact_api_Fact_int : zvB Try.prog 118 = some (some [.nilFunc]) := by kernel_rfl
theorem us_func_S_api_Fact_func_api_Fact_api_Fact_int : (Try.prog.underlying 118).isSome = true := by kernel_rfl
theorem by_struct_Kind_int_L_api_Term_R_api_Term : Try.prog.bytesOf 119 = 120 := by kernel_rfl
theorem tf_struct_Kind_int_L_api_Term_R_api_Term : tfB Try.prog 119 true 9 = true := by kernel_rfl
theorem fo_struct_Kind_int_L_api_Term_R_api_Term_0 : foB Try.prog 119 0 0 = true := by kernel_rfl
theorem ft_struct_Kind_int_L_api_Term_R_api_Term_0 : ftB Try.prog 119 0 0 3 = true := by kernel_rfl
theorem fo_struct_Kind_int_L_api_Term_R_api_Term_1 : foB Try.prog 119 1 1 = true := by kernel_rfl
theorem ft_struct_Kind_int_L_api_Term_R_api_Term_1 : ftB Try.prog 119 1 1 32 = true := by kernel_rfl
theorem fo_struct_Kind_int_L_api_Term_R_api_Term_2 : foB Try.prog 119 2 5 = true := by kernel_rfl
theorem ft_struct_Kind_int_L_api_Term_R_api_Term_2 : ftB Try.prog 119 2 5 32 = true := by kernel_rfl
theorem st_struct_Kind_int_L_api_Term_R_api_Term : stB Try.prog 119 [(3, 0, 1), (32, 1, 4), (32, 5, 4)] 9 = true := by kernel_rfl
theorem pl_struct_Kind_int_L_api_Term_R_api_Term : plB Try.prog 119 = some [(0, 1), (1, 4), (5, 4)] := by kernel_rfl
theorem zv_struct_Kind_int_L_api_Term_R_api_Term : zvB Try.prog 119 = some (some [.int .i64 0, .int .i64 0, .string ⟨#[]⟩, .int .i64 0, .slice none 0 0, .int .i64 0, .string ⟨#[]⟩, .int .i64 0, .slice none 0 0]) := by kernel_rfl
theorem us_struct_Kind_int_L_api_Term_R_api_Term : (Try.prog.underlying 119).isSome = true := by kernel_rfl
theorem by_api_Guard : Try.prog.bytesOf 120 = 120 := by kernel_rfl
theorem tf_api_Guard : tfB Try.prog 120 true 9 = true := by kernel_rfl
theorem fo_api_Guard_0 : foB Try.prog 120 0 0 = true := by kernel_rfl
theorem ft_api_Guard_0 : ftB Try.prog 120 0 0 3 = true := by kernel_rfl
theorem fo_api_Guard_1 : foB Try.prog 120 1 1 = true := by kernel_rfl
theorem ft_api_Guard_1 : ftB Try.prog 120 1 1 32 = true := by kernel_rfl
theorem fo_api_Guard_2 : foB Try.prog 120 2 5 = true := by kernel_rfl
theorem ft_api_Guard_2 : ftB Try.prog 120 2 5 32 = true := by kernel_rfl
theorem st_api_Guard : stB Try.prog 120 [(3, 0, 1), (32, 1, 4), (32, 5, 4)] 9 = true := by kernel_rfl
theorem pl_api_Guard : plB Try.prog 120 = some [(0, 1), (1, 4), (5, 4)] := by kernel_rfl
theorem zv_api_Guard : zvB Try.prog 120 = some (some [.int .i64 0, .int .i64 0, .string ⟨#[]⟩, .int .i64 0, .slice none 0 0, .int .i64 0, .string ⟨#[]⟩, .int .i64 0, .slice none 0 0]) := by kernel_rfl
theorem us_api_Guard : (Try.prog.underlying 120).isSome = true := by kernel_rfl
theorem by_func_S_api_Clause_int : Try.prog.bytesOf 121 = 8 := by kernel_rfl
theorem tf_func_S_api_Clause_int : tfB Try.prog 121 false 1 = true := by kernel_rfl
theorem zv_func_S_api_Clause_int : zvB Try.prog 121 = some (some [.nilFunc]) := by kernel_rfl
theorem us_func_S_api_Clause_int : (Try.prog.underlying 121).isSome = true := by kernel_rfl
theorem by_func_api_Term_int_P_int_bool : Try.prog.bytesOf 122 = 8 := by kernel_rfl
theorem tf_func_api_Term_int_P_int_bool : tfB Try.prog 122 false 1 = true := by kernel_rfl
theorem zv_func_api_Term_int_P_int_bool : zvB Try.prog 122 = some (some [.nilFunc]) := by kernel_rfl
theorem us_func_api_Term_int_P_int_bool : (Try.prog.underlying 122).isSome = true := by kernel_rfl
theorem by_P_int : Try.prog.bytesOf 123 = 8 := by kernel_rfl
theorem tf_P_int : tfB Try.prog 123 false 1 = true := by kernel_rfl
theorem zv_P_int : zvB Try.prog 123 = some (some [.pointer none]) := by kernel_rfl
theorem us_P_int : (Try.prog.underlying 123).isSome = true := by kernel_rfl
theorem by_func_S_string_S_string_S_string : Try.prog.bytesOf 124 = 8 := by kernel_rfl
theorem tf_func_S_string_S_string_S_string : tfB Try.prog 124 false 1 = true := by kernel_rfl
theorem zv_func_S_string_S_string_S_string : zvB Try.prog 124 = some (some [.nilFunc]) := by kernel_rfl
theorem us_func_S_string_S_string_S_string : (Try.prog.underlying 124).isSome = true := by kernel_rfl
theorem by_func_int_int : Try.prog.bytesOf 125 = 8 := by kernel_rfl
theorem tf_func_int_int : tfB Try.prog 125 false 1 = true := by kernel_rfl
theorem zv_func_int_int : zvB Try.prog 125 = some (some [.nilFunc]) := by kernel_rfl
theorem us_func_int_int : (Try.prog.underlying 125).isSome = true := by kernel_rfl
theorem by_func_string_string_int : Try.prog.bytesOf 126 = 8 := by kernel_rfl
theorem tf_func_string_string_int : tfB Try.prog 126 false 1 = true := by kernel_rfl
theorem zv_func_string_string_int : zvB Try.prog 126 = some (some [.nilFunc]) := by kernel_rfl
theorem us_func_string_string_int : (Try.prog.underlying 126).isSome = true := by kernel_rfl
theorem by_func_S_api_Bind_S_api_Term : Try.prog.bytesOf 127 = 8 := by kernel_rfl
theorem tf_func_S_api_Bind_S_api_Term : tfB Try.prog 127 false 1 = true := by kernel_rfl
theorem zv_func_S_api_Bind_S_api_Term : zvB Try.prog 127 = some (some [.nilFunc]) := by kernel_rfl
theorem us_func_S_api_Bind_S_api_Term : (Try.prog.underlying 127).isSome = true := by kernel_rfl
theorem by_S_unify_pair_bool : Try.prog.bytesOf 128 = 0 := by kernel_rfl
theorem by_func_api_Term_api_Term_S_unify_pair_bool : Try.prog.bytesOf 129 = 8 := by kernel_rfl
theorem tf_func_api_Term_api_Term_S_unify_pair_bool : tfB Try.prog 129 false 1 = true := by kernel_rfl
theorem zv_func_api_Term_api_Term_S_unify_pair_bool : zvB Try.prog 129 = some (some [.nilFunc]) := by kernel_rfl
theorem us_func_api_Term_api_Term_S_unify_pair_bool : (Try.prog.underlying 129).isSome = true := by kernel_rfl
theorem by_S_S_unify_pair : Try.prog.bytesOf 130 = 24 := by kernel_rfl
theorem tf_S_S_unify_pair : tfB Try.prog 130 false 1 = true := by kernel_rfl
theorem zv_S_S_unify_pair : zvB Try.prog 130 = some (some [.slice none 0 0]) := by kernel_rfl
theorem sl_S_S_unify_pair : slB Try.prog 130 97 1 = true := by kernel_rfl
theorem ta_S_S_unify_pair : TyA Try.prog 130 97 1 24 := ⟨sl_S_S_unify_pair, ⟨(.slice none 0 0 : Value), by kernel_rfl, rfl⟩, by decide⟩
theorem us_S_S_unify_pair : (Try.prog.underlying 130).isSome = true := by kernel_rfl
theorem by_func_S_unify_pair_int_S_unify_pair : Try.prog.bytesOf 131 = 8 := by kernel_rfl
theorem tf_func_S_unify_pair_int_S_unify_pair : tfB Try.prog 131 false 1 = true := by kernel_rfl
theorem zv_func_S_unify_pair_int_S_unify_pair : zvB Try.prog 131 = some (some [.nilFunc]) := by kernel_rfl
theorem us_func_S_unify_pair_int_S_unify_pair : (Try.prog.underlying 131).isSome = true := by kernel_rfl
theorem by_func_S_api_Bind_api_Term_api_Term : Try.prog.bytesOf 132 = 8 := by kernel_rfl
theorem tf_func_S_api_Bind_api_Term_api_Term : tfB Try.prog 132 false 1 = true := by kernel_rfl
theorem zv_func_S_api_Bind_api_Term_api_Term : zvB Try.prog 132 = some (some [.nilFunc]) := by kernel_rfl
theorem us_func_S_api_Bind_api_Term_api_Term : (Try.prog.underlying 132).isSome = true := by kernel_rfl
theorem by_func_string_func_uint8_bool_bool : Try.prog.bytesOf 133 = 8 := by kernel_rfl
theorem tf_func_string_func_uint8_bool_bool : tfB Try.prog 133 false 1 = true := by kernel_rfl
theorem zv_func_string_func_uint8_bool_bool : zvB Try.prog 133 = some (some [.nilFunc]) := by kernel_rfl
theorem us_func_string_func_uint8_bool_bool : (Try.prog.underlying 133).isSome = true := by kernel_rfl
theorem by_func_uint8_bool : Try.prog.bytesOf 134 = 8 := by kernel_rfl
theorem tf_func_uint8_bool : tfB Try.prog 134 false 1 = true := by kernel_rfl
theorem zv_func_uint8_bool : zvB Try.prog 134 = some (some [.nilFunc]) := by kernel_rfl
theorem us_func_uint8_bool : (Try.prog.underlying 134).isSome = true := by kernel_rfl
theorem by_func_S_api_Bind_string_func_api_Bind_string_int_int_bool : Try.prog.bytesOf 135 = 8 := by kernel_rfl
theorem tf_func_S_api_Bind_string_func_api_Bind_string_int_int_bool : tfB Try.prog 135 false 1 = true := by kernel_rfl
theorem zv_func_S_api_Bind_string_func_api_Bind_string_int_int_bool : zvB Try.prog 135 = some (some [.nilFunc]) := by kernel_rfl
theorem us_func_S_api_Bind_string_func_api_Bind_string_int_int_bool : (Try.prog.underlying 135).isSome = true := by kernel_rfl
theorem by_func_api_Bind_string_int : Try.prog.bytesOf 136 = 8 := by kernel_rfl
theorem tf_func_api_Bind_string_int : tfB Try.prog 136 false 1 = true := by kernel_rfl
theorem zv_func_api_Bind_string_int : zvB Try.prog 136 = some (some [.nilFunc]) := by kernel_rfl
theorem us_func_api_Bind_string_int : (Try.prog.underlying 136).isSome = true := by kernel_rfl
theorem by_func_S_string_func_string_bool_int : Try.prog.bytesOf 137 = 8 := by kernel_rfl
theorem tf_func_S_string_func_string_bool_int : tfB Try.prog 137 false 1 = true := by kernel_rfl
theorem zv_func_S_string_func_string_bool_int : zvB Try.prog 137 = some (some [.nilFunc]) := by kernel_rfl
theorem us_func_S_string_func_string_bool_int : (Try.prog.underlying 137).isSome = true := by kernel_rfl
theorem by_map_string_bool : Try.prog.bytesOf 138 = 8 := by kernel_rfl
theorem tf_map_string_bool : tfB Try.prog 138 false 1 = true := by kernel_rfl
theorem zv_map_string_bool : zvB Try.prog 138 = some (some [.map none]) := by kernel_rfl
theorem um_map_string_bool : Try.prog.underlying 138 = some (.map 9 4) := by kernel_rfl
theorem us_map_string_bool : (Try.prog.underlying 138).isSome = true := by kernel_rfl
theorem by_func_api_Term_map_string_bool : Try.prog.bytesOf 139 = 8 := by kernel_rfl
theorem tf_func_api_Term_map_string_bool : tfB Try.prog 139 false 1 = true := by kernel_rfl
theorem zv_func_api_Term_map_string_bool : zvB Try.prog 139 = some (some [.nilFunc]) := by kernel_rfl
theorem us_func_api_Term_map_string_bool : (Try.prog.underlying 139).isSome = true := by kernel_rfl
theorem by_func_iter_Seq_string_S_string : Try.prog.bytesOf 140 = 8 := by kernel_rfl
theorem tf_func_iter_Seq_string_S_string : tfB Try.prog 140 false 1 = true := by kernel_rfl
theorem zv_func_iter_Seq_string_S_string : zvB Try.prog 140 = some (some [.nilFunc]) := by kernel_rfl
theorem us_func_iter_Seq_string_S_string : (Try.prog.underlying 140).isSome = true := by kernel_rfl
theorem by_func_func_string_bool : Try.prog.bytesOf 141 = 8 := by kernel_rfl
theorem tf_func_func_string_bool : tfB Try.prog 141 false 1 = true := by kernel_rfl
theorem zv_func_func_string_bool : zvB Try.prog 141 = some (some [.nilFunc]) := by kernel_rfl
theorem us_func_func_string_bool : (Try.prog.underlying 141).isSome = true := by kernel_rfl
theorem by_iter_Seq_string : Try.prog.bytesOf 142 = 8 := by kernel_rfl
theorem tf_iter_Seq_string : tfB Try.prog 142 false 1 = true := by kernel_rfl
theorem zv_iter_Seq_string : zvB Try.prog 142 = some (some [.nilFunc]) := by kernel_rfl
theorem us_iter_Seq_string : (Try.prog.underlying 142).isSome = true := by kernel_rfl
theorem by_func_map_string_bool_iter_Seq_string : Try.prog.bytesOf 143 = 8 := by kernel_rfl
theorem tf_func_map_string_bool_iter_Seq_string : tfB Try.prog 143 false 1 = true := by kernel_rfl
theorem zv_func_map_string_bool_iter_Seq_string : zvB Try.prog 143 = some (some [.nilFunc]) := by kernel_rfl
theorem us_func_map_string_bool_iter_Seq_string : (Try.prog.underlying 143).isSome = true := by kernel_rfl
theorem by_func_S_api_Bind_int_api_Bind_S_api_Bind : Try.prog.bytesOf 144 = 8 := by kernel_rfl
theorem tf_func_S_api_Bind_int_api_Bind_S_api_Bind : tfB Try.prog 144 false 1 = true := by kernel_rfl
theorem zv_func_S_api_Bind_int_api_Bind_S_api_Bind : zvB Try.prog 144 = some (some [.nilFunc]) := by kernel_rfl
theorem us_func_S_api_Bind_int_api_Bind_S_api_Bind : (Try.prog.underlying 144).isSome = true := by kernel_rfl
theorem by_func_api_Term_func_string_api_Term_api_Term : Try.prog.bytesOf 145 = 8 := by kernel_rfl
theorem tf_func_api_Term_func_string_api_Term_api_Term : tfB Try.prog 145 false 1 = true := by kernel_rfl
theorem zv_func_api_Term_func_string_api_Term_api_Term : zvB Try.prog 145 = some (some [.nilFunc]) := by kernel_rfl
theorem us_func_api_Term_func_string_api_Term_api_Term : (Try.prog.underlying 145).isSome = true := by kernel_rfl
theorem by_map_facts_ID_bool : Try.prog.bytesOf 146 = 8 := by kernel_rfl
theorem tf_map_facts_ID_bool : tfB Try.prog 146 false 1 = true := by kernel_rfl
theorem zv_map_facts_ID_bool : zvB Try.prog 146 = some (some [.map none]) := by kernel_rfl
theorem um_map_facts_ID_bool : Try.prog.underlying 146 = some (.map 148 4) := by kernel_rfl
theorem us_map_facts_ID_bool : (Try.prog.underlying 146).isSome = true := by kernel_rfl
theorem by_struct_Term_string_Span_api_Span : Try.prog.bytesOf 147 = 32 := by kernel_rfl
theorem tf_struct_Term_string_Span_api_Span : tfB Try.prog 147 true 3 = true := by kernel_rfl
theorem fo_struct_Term_string_Span_api_Span_0 : foB Try.prog 147 0 0 = true := by kernel_rfl
theorem ft_struct_Term_string_Span_api_Span_0 : ftB Try.prog 147 0 0 9 = true := by kernel_rfl
theorem fo_struct_Term_string_Span_api_Span_1 : foB Try.prog 147 1 1 = true := by kernel_rfl
theorem ft_struct_Term_string_Span_api_Span_1 : ftB Try.prog 147 1 1 51 = true := by kernel_rfl
theorem st_struct_Term_string_Span_api_Span : stB Try.prog 147 [(9, 0, 1), (51, 1, 2)] 3 = true := by kernel_rfl
theorem pl_struct_Term_string_Span_api_Span : plB Try.prog 147 = some [(0, 1), (1, 2)] := by kernel_rfl
theorem zv_struct_Term_string_Span_api_Span : zvB Try.prog 147 = some (some [.string ⟨#[]⟩, .int .i64 0, .int .i64 0]) := by kernel_rfl
theorem us_struct_Term_string_Span_api_Span : (Try.prog.underlying 147).isSome = true := by kernel_rfl
theorem by_facts_ID : Try.prog.bytesOf 148 = 32 := by kernel_rfl
theorem tf_facts_ID : tfB Try.prog 148 true 3 = true := by kernel_rfl
theorem fo_facts_ID_0 : foB Try.prog 148 0 0 = true := by kernel_rfl
theorem ft_facts_ID_0 : ftB Try.prog 148 0 0 9 = true := by kernel_rfl
theorem fo_facts_ID_1 : foB Try.prog 148 1 1 = true := by kernel_rfl
theorem ft_facts_ID_1 : ftB Try.prog 148 1 1 51 = true := by kernel_rfl
theorem st_facts_ID : stB Try.prog 148 [(9, 0, 1), (51, 1, 2)] 3 = true := by kernel_rfl
theorem pl_facts_ID : plB Try.prog 148 = some [(0, 1), (1, 2)] := by kernel_rfl
theorem zv_facts_ID : zvB Try.prog 148 = some (some [.string ⟨#[]⟩, .int .i64 0, .int .i64 0]) := by kernel_rfl
theorem us_facts_ID : (Try.prog.underlying 148).isSome = true := by kernel_rfl
theorem by_func_api_Fact_facts_ID : Try.prog.bytesOf 149 = 8 := by kernel_rfl
theorem tf_func_api_Fact_facts_ID : tfB Try.prog 149 false 1 = true := by kernel_rfl
theorem zv_func_api_Fact_facts_ID : zvB Try.prog 149 = some (some [.nilFunc]) := by kernel_rfl
theorem us_func_api_Fact_facts_ID : (Try.prog.underlying 149).isSome = true := by kernel_rfl
theorem by_func_S_api_Kept_func_api_Kept_bool_int : Try.prog.bytesOf 150 = 8 := by kernel_rfl
theorem tf_func_S_api_Kept_func_api_Kept_bool_int : tfB Try.prog 150 false 1 = true := by kernel_rfl
theorem zv_func_S_api_Kept_func_api_Kept_bool_int : zvB Try.prog 150 = some (some [.nilFunc]) := by kernel_rfl
theorem us_func_S_api_Kept_func_api_Kept_bool_int : (Try.prog.underlying 150).isSome = true := by kernel_rfl
theorem by_func_api_Kept_bool : Try.prog.bytesOf 151 = 8 := by kernel_rfl
theorem tf_func_api_Kept_bool : tfB Try.prog 151 false 1 = true := by kernel_rfl
theorem zv_func_api_Kept_bool : zvB Try.prog 151 = some (some [.nilFunc]) := by kernel_rfl
theorem us_func_api_Kept_bool : (Try.prog.underlying 151).isSome = true := by kernel_rfl
theorem by_func_S_api_Fact_int_int_int_func_api_Fact_api_Fact_int : Try.prog.bytesOf 152 = 8 := by kernel_rfl
theorem tf_func_S_api_Fact_int_int_int_func_api_Fact_api_Fact_int : tfB Try.prog 152 false 1 = true := by kernel_rfl
theorem zv_func_S_api_Fact_int_int_int_func_api_Fact_api_Fact_int : zvB Try.prog 152 = some (some [.nilFunc]) := by kernel_rfl
theorem us_func_S_api_Fact_int_int_int_func_api_Fact_api_Fact_int : (Try.prog.underlying 152).isSome = true := by kernel_rfl
theorem by_func_uint_int : Try.prog.bytesOf 153 = 8 := by kernel_rfl
theorem tf_func_uint_int : tfB Try.prog 153 false 1 = true := by kernel_rfl
theorem zv_func_uint_int : zvB Try.prog 153 = some (some [.nilFunc]) := by kernel_rfl
theorem us_func_uint_int : (Try.prog.underlying 153).isSome = true := by kernel_rfl
theorem by_uint : Try.prog.bytesOf 154 = 8 := by kernel_rfl
theorem tf_uint : tfB Try.prog 154 false 1 = true := by kernel_rfl
theorem zv_uint : zvB Try.prog 154 = some (some [.int .u64 0]) := by kernel_rfl
theorem ul_uint : Try.prog.underlying 154 = some (.int .u64) := by kernel_rfl
theorem us_uint : (Try.prog.underlying 154).isSome = true := by kernel_rfl
theorem by_struct_Head_api_Term_Body_S_api_Term_Guards_S_api_Guard : Try.prog.bytesOf 155 = 104 := by kernel_rfl
theorem tf_struct_Head_api_Term_Body_S_api_Term_Guards_S_api_Guard : tfB Try.prog 155 true 6 = true := by kernel_rfl
theorem fo_struct_Head_api_Term_Body_S_api_Term_Guards_S_api_Guard_0 : foB Try.prog 155 0 0 = true := by kernel_rfl
theorem ft_struct_Head_api_Term_Body_S_api_Term_Guards_S_api_Guard_0 : ftB Try.prog 155 0 0 32 = true := by kernel_rfl
theorem fo_struct_Head_api_Term_Body_S_api_Term_Guards_S_api_Guard_1 : foB Try.prog 155 1 4 = true := by kernel_rfl
theorem ft_struct_Head_api_Term_Body_S_api_Term_Guards_S_api_Guard_1 : ftB Try.prog 155 1 4 23 = true := by kernel_rfl
theorem fo_struct_Head_api_Term_Body_S_api_Term_Guards_S_api_Guard_2 : foB Try.prog 155 2 5 = true := by kernel_rfl
theorem ft_struct_Head_api_Term_Body_S_api_Term_Guards_S_api_Guard_2 : ftB Try.prog 155 2 5 27 = true := by kernel_rfl
theorem st_struct_Head_api_Term_Body_S_api_Term_Guards_S_api_Guard : stB Try.prog 155 [(32, 0, 4), (23, 4, 1), (27, 5, 1)] 6 = true := by kernel_rfl
theorem pl_struct_Head_api_Term_Body_S_api_Term_Guards_S_api_Guard : plB Try.prog 155 = some [(0, 4), (4, 1), (5, 1)] := by kernel_rfl
theorem zv_struct_Head_api_Term_Body_S_api_Term_Guards_S_api_Guard : zvB Try.prog 155 = some (some [.int .i64 0, .string ⟨#[]⟩, .int .i64 0, .slice none 0 0, .slice none 0 0, .slice none 0 0]) := by kernel_rfl
theorem us_struct_Head_api_Term_Body_S_api_Term_Guards_S_api_Guard : (Try.prog.underlying 155).isSome = true := by kernel_rfl
theorem by_api_Clause : Try.prog.bytesOf 156 = 104 := by kernel_rfl
theorem tf_api_Clause : tfB Try.prog 156 true 6 = true := by kernel_rfl
theorem fo_api_Clause_0 : foB Try.prog 156 0 0 = true := by kernel_rfl
theorem ft_api_Clause_0 : ftB Try.prog 156 0 0 32 = true := by kernel_rfl
theorem fo_api_Clause_1 : foB Try.prog 156 1 4 = true := by kernel_rfl
theorem ft_api_Clause_1 : ftB Try.prog 156 1 4 23 = true := by kernel_rfl
theorem fo_api_Clause_2 : foB Try.prog 156 2 5 = true := by kernel_rfl
theorem ft_api_Clause_2 : ftB Try.prog 156 2 5 27 = true := by kernel_rfl
theorem st_api_Clause : stB Try.prog 156 [(32, 0, 4), (23, 4, 1), (27, 5, 1)] 6 = true := by kernel_rfl
theorem pl_api_Clause : plB Try.prog 156 = some [(0, 4), (4, 1), (5, 1)] := by kernel_rfl
theorem zv_api_Clause : zvB Try.prog 156 = some (some [.int .i64 0, .string ⟨#[]⟩, .int .i64 0, .slice none 0 0, .slice none 0 0, .slice none 0 0]) := by kernel_rfl
theorem us_api_Clause : (Try.prog.underlying 156).isSome = true := by kernel_rfl
theorem by_func_int_bool : Try.prog.bytesOf 157 = 8 := by kernel_rfl
theorem tf_func_int_bool : tfB Try.prog 157 false 1 = true := by kernel_rfl
theorem zv_func_int_bool : zvB Try.prog 157 = some (some [.nilFunc]) := by kernel_rfl
theorem us_func_int_bool : (Try.prog.underlying 157).isSome = true := by kernel_rfl
theorem by_func_S_api_Term_func_api_Term_bool_bool : Try.prog.bytesOf 158 = 8 := by kernel_rfl
theorem tf_func_S_api_Term_func_api_Term_bool_bool : tfB Try.prog 158 false 1 = true := by kernel_rfl
theorem zv_func_S_api_Term_func_api_Term_bool_bool : zvB Try.prog 158 = some (some [.nilFunc]) := by kernel_rfl
theorem us_func_S_api_Term_func_api_Term_bool_bool : (Try.prog.underlying 158).isSome = true := by kernel_rfl
theorem by_func_S_api_Term_S_api_Term_func_api_Term_api_Term_int_int : Try.prog.bytesOf 159 = 8 := by kernel_rfl
theorem tf_func_S_api_Term_S_api_Term_func_api_Term_api_Term_int_int : tfB Try.prog 159 false 1 = true := by kernel_rfl
theorem zv_func_S_api_Term_S_api_Term_func_api_Term_api_Term_int_int : zvB Try.prog 159 = some (some [.nilFunc]) := by kernel_rfl
theorem us_func_S_api_Term_S_api_Term_func_api_Term_api_Term_int_int : (Try.prog.underlying 159).isSome = true := by kernel_rfl
theorem by_func_S_string_S_string : Try.prog.bytesOf 160 = 8 := by kernel_rfl
theorem tf_func_S_string_S_string : tfB Try.prog 160 false 1 = true := by kernel_rfl
theorem zv_func_S_string_S_string : zvB Try.prog 160 = some (some [.nilFunc]) := by kernel_rfl
theorem us_func_S_string_S_string : (Try.prog.underlying 160).isSome = true := by kernel_rfl
theorem by_func_S_string_string_bool : Try.prog.bytesOf 161 = 8 := by kernel_rfl
theorem tf_func_S_string_string_bool : tfB Try.prog 161 false 1 = true := by kernel_rfl
theorem zv_func_S_string_string_bool : zvB Try.prog 161 = some (some [.nilFunc]) := by kernel_rfl
theorem us_func_S_string_string_bool : (Try.prog.underlying 161).isSome = true := by kernel_rfl
theorem by_func_S_string : Try.prog.bytesOf 162 = 8 := by kernel_rfl
theorem tf_func_S_string : tfB Try.prog 162 false 1 = true := by kernel_rfl
theorem zv_func_S_string : zvB Try.prog 162 = some (some [.nilFunc]) := by kernel_rfl
theorem us_func_S_string : (Try.prog.underlying 162).isSome = true := by kernel_rfl
theorem by_func_S_api_Bind_int_163 : Try.prog.bytesOf 163 = 8 := by kernel_rfl
theorem tf_func_S_api_Bind_int_163 : tfB Try.prog 163 false 1 = true := by kernel_rfl
theorem zv_func_S_api_Bind_int_163 : zvB Try.prog 163 = some (some [.nilFunc]) := by kernel_rfl
theorem us_func_S_api_Bind_int_163 : (Try.prog.underlying 163).isSome = true := by kernel_rfl
theorem by_func_api_Term_string : Try.prog.bytesOf 164 = 8 := by kernel_rfl
theorem tf_func_api_Term_string : tfB Try.prog 164 false 1 = true := by kernel_rfl
theorem zv_func_api_Term_string : zvB Try.prog 164 = some (some [.nilFunc]) := by kernel_rfl
theorem us_func_api_Term_string : (Try.prog.underlying 164).isSome = true := by kernel_rfl
theorem by_func_S_api_Fact_int_int_func_api_Fact_api_Fact_int : Try.prog.bytesOf 165 = 8 := by kernel_rfl
theorem tf_func_S_api_Fact_int_int_func_api_Fact_api_Fact_int : tfB Try.prog 165 false 1 = true := by kernel_rfl
theorem zv_func_S_api_Fact_int_int_func_api_Fact_api_Fact_int : zvB Try.prog 165 = some (some [.nilFunc]) := by kernel_rfl
theorem us_func_S_api_Fact_int_int_func_api_Fact_api_Fact_int : (Try.prog.underlying 165).isSome = true := by kernel_rfl
theorem by_slices_sortedHint : Try.prog.bytesOf 166 = 8 := by kernel_rfl
theorem tf_slices_sortedHint : tfB Try.prog 166 false 1 = true := by kernel_rfl
theorem zv_slices_sortedHint : zvB Try.prog 166 = some (some [.int .i64 0]) := by kernel_rfl
theorem ul_slices_sortedHint : Try.prog.underlying 166 = some (.int .i64) := by kernel_rfl
theorem us_slices_sortedHint : (Try.prog.underlying 166).isSome = true := by kernel_rfl
theorem by_int_slices_sortedHint : Try.prog.bytesOf 167 = 0 := by kernel_rfl
theorem by_func_S_api_Fact_int_int_func_api_Fact_ap63ba06d5 : Try.prog.bytesOf 168 = 8 := by kernel_rfl
theorem tf_func_S_api_Fact_int_int_func_api_Fact_ap63ba06d5 : tfB Try.prog 168 false 1 = true := by kernel_rfl
theorem zv_func_S_api_Fact_int_int_func_api_Fact_ap63ba06d5 : zvB Try.prog 168 = some (some [.nilFunc]) := by kernel_rfl
theorem us_func_S_api_Fact_int_int_func_api_Fact_ap63ba06d5 : (Try.prog.underlying 168).isSome = true := by kernel_rfl
theorem by_func_S_api_Fact_int_int_func_api_Fact_api_Fact_int_bool : Try.prog.bytesOf 169 = 8 := by kernel_rfl
theorem tf_func_S_api_Fact_int_int_func_api_Fact_api_Fact_int_bool : tfB Try.prog 169 false 1 = true := by kernel_rfl
theorem zv_func_S_api_Fact_int_int_func_api_Fact_api_Fact_int_bool : zvB Try.prog 169 = some (some [.nilFunc]) := by kernel_rfl
theorem us_func_S_api_Fact_int_int_func_api_Fact_api_Fact_int_bool : (Try.prog.underlying 169).isSome = true := by kernel_rfl
theorem by_func_S_api_Fact_int_int_int_func_api_Fact_api_Fact_int_int : Try.prog.bytesOf 170 = 8 := by kernel_rfl
theorem tf_func_S_api_Fact_int_int_int_func_api_Fact_api_Fact_int_int : tfB Try.prog 170 false 1 = true := by kernel_rfl
theorem zv_func_S_api_Fact_int_int_int_func_api_Fact_api_Fact_int_int : zvB Try.prog 170 = some (some [.nilFunc]) := by kernel_rfl
theorem us_func_S_api_Fact_int_int_int_func_api_Fact_api_Fact_int_int : (Try.prog.underlying 170).isSome = true := by kernel_rfl
theorem by_func_S_api_Fact_int_int_int_func_api_Facee6e320d : Try.prog.bytesOf 171 = 8 := by kernel_rfl
theorem tf_func_S_api_Fact_int_int_int_func_api_Facee6e320d : tfB Try.prog 171 false 1 = true := by kernel_rfl
theorem zv_func_S_api_Fact_int_int_int_func_api_Facee6e320d : zvB Try.prog 171 = some (some [.nilFunc]) := by kernel_rfl
theorem us_func_S_api_Fact_int_int_int_func_api_Facee6e320d : (Try.prog.underlying 171).isSome = true := by kernel_rfl
theorem by_func_uint32_int : Try.prog.bytesOf 172 = 8 := by kernel_rfl
theorem tf_func_uint32_int : tfB Try.prog 172 false 1 = true := by kernel_rfl
theorem zv_func_uint32_int : zvB Try.prog 172 = some (some [.nilFunc]) := by kernel_rfl
theorem us_func_uint32_int : (Try.prog.underlying 172).isSome = true := by kernel_rfl
theorem by_uint32 : Try.prog.bytesOf 173 = 4 := by kernel_rfl
theorem tf_uint32 : tfB Try.prog 173 false 1 = true := by kernel_rfl
theorem zv_uint32 : zvB Try.prog 173 = some (some [.int .u32 0]) := by kernel_rfl
theorem ul_uint32 : Try.prog.underlying 173 = some (.int .u32) := by kernel_rfl
theorem us_uint32 : (Try.prog.underlying 173).isSome = true := by kernel_rfl
theorem by_func_uint64_int : Try.prog.bytesOf 174 = 8 := by kernel_rfl
theorem tf_func_uint64_int : tfB Try.prog 174 false 1 = true := by kernel_rfl
theorem zv_func_uint64_int : zvB Try.prog 174 = some (some [.nilFunc]) := by kernel_rfl
theorem us_func_uint64_int : (Try.prog.underlying 174).isSome = true := by kernel_rfl
theorem by_uint64 : Try.prog.bytesOf 175 = 8 := by kernel_rfl
theorem tf_uint64 : tfB Try.prog 175 false 1 = true := by kernel_rfl
theorem zv_uint64 : zvB Try.prog 175 = some (some [.int .u64 0]) := by kernel_rfl
theorem ul_uint64 : Try.prog.underlying 175 = some (.int .u64) := by kernel_rfl
theorem us_uint64 : (Try.prog.underlying 175).isSome = true := by kernel_rfl
theorem by_func_S_api_Term_func_api_Term_bool_int : Try.prog.bytesOf 176 = 8 := by kernel_rfl
theorem tf_func_S_api_Term_func_api_Term_bool_int : tfB Try.prog 176 false 1 = true := by kernel_rfl
theorem zv_func_S_api_Term_func_api_Term_bool_int : zvB Try.prog 176 = some (some [.nilFunc]) := by kernel_rfl
theorem us_func_S_api_Term_func_api_Term_bool_int : (Try.prog.underlying 176).isSome = true := by kernel_rfl
theorem by_func_S_string_string_int : Try.prog.bytesOf 177 = 8 := by kernel_rfl
theorem tf_func_S_string_string_int : tfB Try.prog 177 false 1 = true := by kernel_rfl
theorem zv_func_S_string_string_int : zvB Try.prog 177 = some (some [.nilFunc]) := by kernel_rfl
theorem us_func_S_string_string_int : (Try.prog.underlying 177).isSome = true := by kernel_rfl
theorem by_func_S_string_iter_Seq_string_S_string : Try.prog.bytesOf 178 = 8 := by kernel_rfl
theorem tf_func_S_string_iter_Seq_string_S_string : tfB Try.prog 178 false 1 = true := by kernel_rfl
theorem zv_func_S_string_iter_Seq_string_S_string : zvB Try.prog 178 = some (some [.nilFunc]) := by kernel_rfl
theorem us_func_S_string_iter_Seq_string_S_string : (Try.prog.underlying 178).isSome = true := by kernel_rfl
theorem by_func_S_string_int_int_int : Try.prog.bytesOf 179 = 8 := by kernel_rfl
theorem tf_func_S_string_int_int_int : tfB Try.prog 179 false 1 = true := by kernel_rfl
theorem zv_func_S_string_int_int_int : zvB Try.prog 179 = some (some [.nilFunc]) := by kernel_rfl
theorem us_func_S_string_int_int_int : (Try.prog.underlying 179).isSome = true := by kernel_rfl
theorem by_S_uint8 : Try.prog.bytesOf 180 = 24 := by kernel_rfl
theorem tf_S_uint8 : tfB Try.prog 180 false 1 = true := by kernel_rfl
theorem zv_S_uint8 : zvB Try.prog 180 = some (some [.slice none 0 0]) := by kernel_rfl
theorem sl_S_uint8 : slB Try.prog 180 5 1 = true := by kernel_rfl
theorem ta_S_uint8 : TyA Try.prog 180 5 1 1 := ⟨sl_S_uint8, ⟨(.int .u8 0 : Value), by kernel_rfl, rfl⟩, by decide⟩
theorem us_S_uint8 : (Try.prog.underlying 180).isSome = true := by kernel_rfl
theorem by_slices_xorshift : Try.prog.bytesOf 181 = 8 := by kernel_rfl
theorem tf_slices_xorshift : tfB Try.prog 181 false 1 = true := by kernel_rfl
theorem zv_slices_xorshift : zvB Try.prog 181 = some (some [.int .u64 0]) := by kernel_rfl
theorem ul_slices_xorshift : Try.prog.underlying 181 = some (.int .u64) := by kernel_rfl
theorem us_slices_xorshift : (Try.prog.underlying 181).isSome = true := by kernel_rfl
theorem by_func_int_uint : Try.prog.bytesOf 182 = 8 := by kernel_rfl
theorem tf_func_int_uint : tfB Try.prog 182 false 1 = true := by kernel_rfl
theorem zv_func_int_uint : zvB Try.prog 182 = some (some [.nilFunc]) := by kernel_rfl
theorem us_func_int_uint : (Try.prog.underlying 182).isSome = true := by kernel_rfl
theorem by_func_uint64 : Try.prog.bytesOf 183 = 8 := by kernel_rfl
theorem tf_func_uint64 : tfB Try.prog 183 false 1 = true := by kernel_rfl
theorem zv_func_uint64 : zvB Try.prog 183 = some (some [.nilFunc]) := by kernel_rfl
theorem us_func_uint64 : (Try.prog.underlying 183).isSome = true := by kernel_rfl
theorem by_func_S_api_Fact_int_P_int_func_api_Fact_api_Fact_int_int : Try.prog.bytesOf 184 = 8 := by kernel_rfl
theorem tf_func_S_api_Fact_int_P_int_func_api_Fact_api_Fact_int_int : tfB Try.prog 184 false 1 = true := by kernel_rfl
theorem zv_func_S_api_Fact_int_P_int_func_api_Fact_api_Fact_int_int : zvB Try.prog 184 = some (some [.nilFunc]) := by kernel_rfl
theorem us_func_S_api_Fact_int_P_int_func_api_Fact_api_Fact_int_int : (Try.prog.underlying 184).isSome = true := by kernel_rfl
theorem by_func_S_api_Fact_int_int_int_P_int_func_a72cadcb0 : Try.prog.bytesOf 185 = 8 := by kernel_rfl
theorem tf_func_S_api_Fact_int_int_int_P_int_func_a72cadcb0 : tfB Try.prog 185 false 1 = true := by kernel_rfl
theorem zv_func_S_api_Fact_int_int_int_P_int_func_a72cadcb0 : zvB Try.prog 185 = some (some [.nilFunc]) := by kernel_rfl
theorem us_func_S_api_Fact_int_int_int_P_int_func_a72cadcb0 : (Try.prog.underlying 185).isSome = true := by kernel_rfl
theorem by_func_S_string_int_int : Try.prog.bytesOf 186 = 8 := by kernel_rfl
theorem tf_func_S_string_int_int : tfB Try.prog 186 false 1 = true := by kernel_rfl
theorem zv_func_S_string_int_int : zvB Try.prog 186 = some (some [.nilFunc]) := by kernel_rfl
theorem us_func_S_string_int_int : (Try.prog.underlying 186).isSome = true := by kernel_rfl
theorem by_func_S_string_int_int_int_slices_sortedHint : Try.prog.bytesOf 187 = 8 := by kernel_rfl
theorem tf_func_S_string_int_int_int_slices_sortedHint : tfB Try.prog 187 false 1 = true := by kernel_rfl
theorem zv_func_S_string_int_int_int_slices_sortedHint : zvB Try.prog 187 = some (some [.nilFunc]) := by kernel_rfl
theorem us_func_S_string_int_int_int_slices_sortedHint : (Try.prog.underlying 187).isSome = true := by kernel_rfl
theorem by_func_S_string_int_int_bool : Try.prog.bytesOf 188 = 8 := by kernel_rfl
theorem tf_func_S_string_int_int_bool : tfB Try.prog 188 false 1 = true := by kernel_rfl
theorem zv_func_S_string_int_int_bool : zvB Try.prog 188 = some (some [.nilFunc]) := by kernel_rfl
theorem us_func_S_string_int_int_bool : (Try.prog.underlying 188).isSome = true := by kernel_rfl
theorem by_func_string_string_bool : Try.prog.bytesOf 189 = 8 := by kernel_rfl
theorem tf_func_string_string_bool : tfB Try.prog 189 false 1 = true := by kernel_rfl
theorem zv_func_string_string_bool : zvB Try.prog 189 = some (some [.nilFunc]) := by kernel_rfl
theorem us_func_string_string_bool : (Try.prog.underlying 189).isSome = true := by kernel_rfl
theorem by_func_S_string_int_int_int_int : Try.prog.bytesOf 190 = 8 := by kernel_rfl
theorem tf_func_S_string_int_int_int_int : tfB Try.prog 190 false 1 = true := by kernel_rfl
theorem zv_func_S_string_int_int_int_int : zvB Try.prog 190 = some (some [.nilFunc]) := by kernel_rfl
theorem us_func_S_string_int_int_int_int : (Try.prog.underlying 190).isSome = true := by kernel_rfl
theorem by_func_S_string_int_int_int_int_bool : Try.prog.bytesOf 191 = 8 := by kernel_rfl
theorem tf_func_S_string_int_int_int_int_bool : tfB Try.prog 191 false 1 = true := by kernel_rfl
theorem zv_func_S_string_int_int_int_int_bool : zvB Try.prog 191 = some (some [.nilFunc]) := by kernel_rfl
theorem us_func_S_string_int_int_int_int_bool : (Try.prog.underlying 191).isSome = true := by kernel_rfl
theorem by_func_S_api_Bind : Try.prog.bytesOf 192 = 8 := by kernel_rfl
theorem tf_func_S_api_Bind : tfB Try.prog 192 false 1 = true := by kernel_rfl
theorem zv_func_S_api_Bind : zvB Try.prog 192 = some (some [.nilFunc]) := by kernel_rfl
theorem us_func_S_api_Bind : (Try.prog.underlying 192).isSome = true := by kernel_rfl
theorem by_P_slices_xorshift : Try.prog.bytesOf 193 = 8 := by kernel_rfl
theorem tf_P_slices_xorshift : tfB Try.prog 193 false 1 = true := by kernel_rfl
theorem zv_P_slices_xorshift : zvB Try.prog 193 = some (some [.pointer none]) := by kernel_rfl
theorem us_P_slices_xorshift : (Try.prog.underlying 193).isSome = true := by kernel_rfl
theorem by_int_int : Try.prog.bytesOf 194 = 0 := by kernel_rfl
theorem by_func_S_api_Fact_int_int_P_int_func_api_F399cf15b : Try.prog.bytesOf 195 = 8 := by kernel_rfl
theorem tf_func_S_api_Fact_int_int_P_int_func_api_F399cf15b : tfB Try.prog 195 false 1 = true := by kernel_rfl
theorem zv_func_S_api_Fact_int_int_P_int_func_api_F399cf15b : zvB Try.prog 195 = some (some [.nilFunc]) := by kernel_rfl
theorem us_func_S_api_Fact_int_int_P_int_func_api_F399cf15b : (Try.prog.underlying 195).isSome = true := by kernel_rfl
theorem by_func_S_string_int_P_int_int : Try.prog.bytesOf 196 = 8 := by kernel_rfl
theorem tf_func_S_string_int_P_int_int : tfB Try.prog 196 false 1 = true := by kernel_rfl
theorem zv_func_S_string_int_P_int_int : zvB Try.prog 196 = some (some [.nilFunc]) := by kernel_rfl
theorem us_func_S_string_int_P_int_int : (Try.prog.underlying 196).isSome = true := by kernel_rfl
theorem by_func_S_string_int_int_int_P_int_int : Try.prog.bytesOf 197 = 8 := by kernel_rfl
theorem tf_func_S_string_int_int_int_P_int_int : tfB Try.prog 197 false 1 = true := by kernel_rfl
theorem zv_func_S_string_int_int_int_P_int_int : zvB Try.prog 197 = some (some [.nilFunc]) := by kernel_rfl
theorem us_func_S_string_int_int_int_P_int_int : (Try.prog.underlying 197).isSome = true := by kernel_rfl
theorem by_func_S_string_int_int_P_int_int_int : Try.prog.bytesOf 198 = 8 := by kernel_rfl
theorem tf_func_S_string_int_int_P_int_int_int : tfB Try.prog 198 false 1 = true := by kernel_rfl
theorem zv_func_S_string_int_int_P_int_int_int : zvB Try.prog 198 = some (some [.nilFunc]) := by kernel_rfl
theorem us_func_S_string_int_int_P_int_int_int : (Try.prog.underlying 198).isSome = true := by kernel_rfl
theorem by_func_string : Try.prog.bytesOf 199 = 8 := by kernel_rfl
theorem tf_func_string : tfB Try.prog 199 false 1 = true := by kernel_rfl
theorem zv_func_string : zvB Try.prog 199 = some (some [.nilFunc]) := by kernel_rfl
theorem us_func_string : (Try.prog.underlying 199).isSome = true := by kernel_rfl
theorem by_struct_interface_P_abi_Type_concrete_P_a2ec9c6bd : Try.prog.bytesOf 200 = 40 := by kernel_rfl
theorem tf_struct_interface_P_abi_Type_concrete_P_a2ec9c6bd : tfB Try.prog 200 true 4 = true := by kernel_rfl
theorem fo_struct_interface_P_abi_Type_concrete_P_a2ec9c6bd_0 : foB Try.prog 200 0 0 = true := by kernel_rfl
theorem ft_struct_interface_P_abi_Type_concrete_P_a2ec9c6bd_0 : ftB Try.prog 200 0 0 17 = true := by kernel_rfl
theorem fo_struct_interface_P_abi_Type_concrete_P_a2ec9c6bd_1 : foB Try.prog 200 1 1 = true := by kernel_rfl
theorem ft_struct_interface_P_abi_Type_concrete_P_a2ec9c6bd_1 : ftB Try.prog 200 1 1 17 = true := by kernel_rfl
theorem fo_struct_interface_P_abi_Type_concrete_P_a2ec9c6bd_2 : foB Try.prog 200 2 2 = true := by kernel_rfl
theorem ft_struct_interface_P_abi_Type_concrete_P_a2ec9c6bd_2 : ftB Try.prog 200 2 2 17 = true := by kernel_rfl
theorem fo_struct_interface_P_abi_Type_concrete_P_a2ec9c6bd_3 : foB Try.prog 200 3 3 = true := by kernel_rfl
theorem ft_struct_interface_P_abi_Type_concrete_P_a2ec9c6bd_3 : ftB Try.prog 200 3 3 9 = true := by kernel_rfl
theorem st_struct_interface_P_abi_Type_concrete_P_a2ec9c6bd : stB Try.prog 200 [(17, 0, 1), (17, 1, 1), (17, 2, 1), (9, 3, 1)] 4 = true := by kernel_rfl
theorem pl_struct_interface_P_abi_Type_concrete_P_a2ec9c6bd : plB Try.prog 200 = some [(0, 1), (1, 1), (2, 1), (3, 1)] := by kernel_rfl
theorem zv_struct_interface_P_abi_Type_concrete_P_a2ec9c6bd : zvB Try.prog 200 = some (some [.pointer none, .pointer none, .pointer none, .string ⟨#[]⟩]) := by kernel_rfl
theorem us_struct_interface_P_abi_Type_concrete_P_a2ec9c6bd : (Try.prog.underlying 200).isSome = true := by kernel_rfl
theorem by_runtime_TypeAssertionError : Try.prog.bytesOf 201 = 40 := by kernel_rfl
theorem tf_runtime_TypeAssertionError : tfB Try.prog 201 true 4 = true := by kernel_rfl
theorem fo_runtime_TypeAssertionError_0 : foB Try.prog 201 0 0 = true := by kernel_rfl
theorem ft_runtime_TypeAssertionError_0 : ftB Try.prog 201 0 0 17 = true := by kernel_rfl
theorem fo_runtime_TypeAssertionError_1 : foB Try.prog 201 1 1 = true := by kernel_rfl
theorem ft_runtime_TypeAssertionError_1 : ftB Try.prog 201 1 1 17 = true := by kernel_rfl
theorem fo_runtime_TypeAssertionError_2 : foB Try.prog 201 2 2 = true := by kernel_rfl
theorem ft_runtime_TypeAssertionError_2 : ftB Try.prog 201 2 2 17 = true := by kernel_rfl
theorem fo_runtime_TypeAssertionError_3 : foB Try.prog 201 3 3 = true := by kernel_rfl
theorem ft_runtime_TypeAssertionError_3 : ftB Try.prog 201 3 3 9 = true := by kernel_rfl
theorem st_runtime_TypeAssertionError : stB Try.prog 201 [(17, 0, 1), (17, 1, 1), (17, 2, 1), (9, 3, 1)] 4 = true := by kernel_rfl
theorem pl_runtime_TypeAssertionError : plB Try.prog 201 = some [(0, 1), (1, 1), (2, 1), (3, 1)] := by kernel_rfl
theorem zv_runtime_TypeAssertionError : zvB Try.prog 201 = some (some [.pointer none, .pointer none, .pointer none, .string ⟨#[]⟩]) := by kernel_rfl
theorem us_runtime_TypeAssertionError : (Try.prog.underlying 201).isSome = true := by kernel_rfl
theorem by_0_P_runtime_PanicNilError : Try.prog.bytesOf 202 = 0 := by kernel_rfl
theorem by_struct_0_P_runtime_PanicNilError : Try.prog.bytesOf 203 = 0 := by kernel_rfl
theorem by_runtime_PanicNilError : Try.prog.bytesOf 204 = 0 := by kernel_rfl
theorem by_func_int : Try.prog.bytesOf 205 = 8 := by kernel_rfl
theorem tf_func_int : tfB Try.prog 205 false 1 = true := by kernel_rfl
theorem zv_func_int : zvB Try.prog 205 = some (some [.nilFunc]) := by kernel_rfl
theorem us_func_int : (Try.prog.underlying 205).isSome = true := by kernel_rfl
theorem by_abi_TFlag : Try.prog.bytesOf 206 = 1 := by kernel_rfl
theorem tf_abi_TFlag : tfB Try.prog 206 false 1 = true := by kernel_rfl
theorem zv_abi_TFlag : zvB Try.prog 206 = some (some [.int .u8 0]) := by kernel_rfl
theorem ul_abi_TFlag : Try.prog.underlying 206 = some (.int .u8) := by kernel_rfl
theorem us_abi_TFlag : (Try.prog.underlying 206).isSome = true := by kernel_rfl
theorem by_abi_Kind : Try.prog.bytesOf 207 = 1 := by kernel_rfl
theorem tf_abi_Kind : tfB Try.prog 207 false 1 = true := by kernel_rfl
theorem zv_abi_Kind : zvB Try.prog 207 = some (some [.int .u8 0]) := by kernel_rfl
theorem ul_abi_Kind : Try.prog.underlying 207 = some (.int .u8) := by kernel_rfl
theorem us_abi_Kind : (Try.prog.underlying 207).isSome = true := by kernel_rfl
theorem by_func_unsafe_Pointer_unsafe_Pointer_bool : Try.prog.bytesOf 208 = 8 := by kernel_rfl
theorem tf_func_unsafe_Pointer_unsafe_Pointer_bool : tfB Try.prog 208 false 1 = true := by kernel_rfl
theorem zv_func_unsafe_Pointer_unsafe_Pointer_bool : zvB Try.prog 208 = some (some [.nilFunc]) := by kernel_rfl
theorem us_func_unsafe_Pointer_unsafe_Pointer_bool : (Try.prog.underlying 208).isSome = true := by kernel_rfl
theorem by_P_uint8 : Try.prog.bytesOf 209 = 8 := by kernel_rfl
theorem tf_P_uint8 : tfB Try.prog 209 false 1 = true := by kernel_rfl
theorem zv_P_uint8 : zvB Try.prog 209 = some (some [.pointer none]) := by kernel_rfl
theorem us_P_uint8 : (Try.prog.underlying 209).isSome = true := by kernel_rfl
theorem by_abi_NameOff : Try.prog.bytesOf 210 = 4 := by kernel_rfl
theorem tf_abi_NameOff : tfB Try.prog 210 false 1 = true := by kernel_rfl
theorem zv_abi_NameOff : zvB Try.prog 210 = some (some [.int .i32 0]) := by kernel_rfl
theorem ul_abi_NameOff : Try.prog.underlying 210 = some (.int .i32) := by kernel_rfl
theorem us_abi_NameOff : (Try.prog.underlying 210).isSome = true := by kernel_rfl
theorem by_abi_TypeOff : Try.prog.bytesOf 211 = 4 := by kernel_rfl
theorem tf_abi_TypeOff : tfB Try.prog 211 false 1 = true := by kernel_rfl
theorem zv_abi_TypeOff : zvB Try.prog 211 = some (some [.int .i32 0]) := by kernel_rfl
theorem ul_abi_TypeOff : Try.prog.underlying 211 = some (.int .i32) := by kernel_rfl
theorem us_abi_TypeOff : (Try.prog.underlying 211).isSome = true := by kernel_rfl
theorem by_struct_Size_uintptr_PtrBytes_uintptr_Has45611824 : Try.prog.bytesOf 212 = 48 := by kernel_rfl
theorem tf_struct_Size_uintptr_PtrBytes_uintptr_Has45611824 : tfB Try.prog 212 true 11 = true := by kernel_rfl
theorem fo_struct_Size_uintptr_PtrBytes_uintptr_Has45611824_0 : foB Try.prog 212 0 0 = true := by kernel_rfl
theorem ft_struct_Size_uintptr_PtrBytes_uintptr_Has45611824_0 : ftB Try.prog 212 0 0 12 = true := by kernel_rfl
theorem fo_struct_Size_uintptr_PtrBytes_uintptr_Has45611824_1 : foB Try.prog 212 1 1 = true := by kernel_rfl
theorem ft_struct_Size_uintptr_PtrBytes_uintptr_Has45611824_1 : ftB Try.prog 212 1 1 12 = true := by kernel_rfl
theorem fo_struct_Size_uintptr_PtrBytes_uintptr_Has45611824_2 : foB Try.prog 212 2 2 = true := by kernel_rfl
theorem ft_struct_Size_uintptr_PtrBytes_uintptr_Has45611824_2 : ftB Try.prog 212 2 2 173 = true := by kernel_rfl
theorem fo_struct_Size_uintptr_PtrBytes_uintptr_Has45611824_3 : foB Try.prog 212 3 3 = true := by kernel_rfl
theorem ft_struct_Size_uintptr_PtrBytes_uintptr_Has45611824_3 : ftB Try.prog 212 3 3 206 = true := by kernel_rfl
theorem fo_struct_Size_uintptr_PtrBytes_uintptr_Has45611824_4 : foB Try.prog 212 4 4 = true := by kernel_rfl
theorem ft_struct_Size_uintptr_PtrBytes_uintptr_Has45611824_4 : ftB Try.prog 212 4 4 5 = true := by kernel_rfl
theorem fo_struct_Size_uintptr_PtrBytes_uintptr_Has45611824_5 : foB Try.prog 212 5 5 = true := by kernel_rfl
theorem ft_struct_Size_uintptr_PtrBytes_uintptr_Has45611824_5 : ftB Try.prog 212 5 5 5 = true := by kernel_rfl
theorem fo_struct_Size_uintptr_PtrBytes_uintptr_Has45611824_6 : foB Try.prog 212 6 6 = true := by kernel_rfl
theorem ft_struct_Size_uintptr_PtrBytes_uintptr_Has45611824_6 : ftB Try.prog 212 6 6 207 = true := by kernel_rfl
theorem fo_struct_Size_uintptr_PtrBytes_uintptr_Has45611824_7 : foB Try.prog 212 7 7 = true := by kernel_rfl
theorem ft_struct_Size_uintptr_PtrBytes_uintptr_Has45611824_7 : ftB Try.prog 212 7 7 208 = true := by kernel_rfl
theorem fo_struct_Size_uintptr_PtrBytes_uintptr_Has45611824_8 : foB Try.prog 212 8 8 = true := by kernel_rfl
theorem ft_struct_Size_uintptr_PtrBytes_uintptr_Has45611824_8 : ftB Try.prog 212 8 8 209 = true := by kernel_rfl
theorem fo_struct_Size_uintptr_PtrBytes_uintptr_Has45611824_9 : foB Try.prog 212 9 9 = true := by kernel_rfl
theorem ft_struct_Size_uintptr_PtrBytes_uintptr_Has45611824_9 : ftB Try.prog 212 9 9 210 = true := by kernel_rfl
theorem fo_struct_Size_uintptr_PtrBytes_uintptr_Has45611824_10 : foB Try.prog 212 10 10 = true := by kernel_rfl
theorem ft_struct_Size_uintptr_PtrBytes_uintptr_Has45611824_10 : ftB Try.prog 212 10 10 211 = true := by kernel_rfl
theorem st_struct_Size_uintptr_PtrBytes_uintptr_Has45611824 : stB Try.prog 212 [(12, 0, 1), (12, 1, 1), (173, 2, 1), (206, 3, 1), (5, 4, 1), (5, 5, 1), (207, 6, 1), (208, 7, 1), (209, 8, 1), (210, 9, 1), (211, 10, 1)] 11 = true := by kernel_rfl
theorem pl_struct_Size_uintptr_PtrBytes_uintptr_Has45611824 : plB Try.prog 212 = some [(0, 1), (1, 1), (2, 1), (3, 1), (4, 1), (5, 1), (6, 1), (7, 1), (8, 1), (9, 1), (10, 1)] := by kernel_rfl
theorem zv_struct_Size_uintptr_PtrBytes_uintptr_Has45611824 : zvB Try.prog 212 = some (some [.int .u64 0, .int .u64 0, .int .u32 0, .int .u8 0, .int .u8 0, .int .u8 0, .int .u8 0, .nilFunc, .pointer none, .int .i32 0, .int .i32 0]) := by kernel_rfl
theorem us_struct_Size_uintptr_PtrBytes_uintptr_Has45611824 : (Try.prog.underlying 212).isSome = true := by kernel_rfl
theorem by_abi_Type : Try.prog.bytesOf 213 = 48 := by kernel_rfl
theorem tf_abi_Type : tfB Try.prog 213 true 11 = true := by kernel_rfl
theorem fo_abi_Type_0 : foB Try.prog 213 0 0 = true := by kernel_rfl
theorem ft_abi_Type_0 : ftB Try.prog 213 0 0 12 = true := by kernel_rfl
theorem fo_abi_Type_1 : foB Try.prog 213 1 1 = true := by kernel_rfl
theorem ft_abi_Type_1 : ftB Try.prog 213 1 1 12 = true := by kernel_rfl
theorem fo_abi_Type_2 : foB Try.prog 213 2 2 = true := by kernel_rfl
theorem ft_abi_Type_2 : ftB Try.prog 213 2 2 173 = true := by kernel_rfl
theorem fo_abi_Type_3 : foB Try.prog 213 3 3 = true := by kernel_rfl
theorem ft_abi_Type_3 : ftB Try.prog 213 3 3 206 = true := by kernel_rfl
theorem fo_abi_Type_4 : foB Try.prog 213 4 4 = true := by kernel_rfl
theorem ft_abi_Type_4 : ftB Try.prog 213 4 4 5 = true := by kernel_rfl
theorem fo_abi_Type_5 : foB Try.prog 213 5 5 = true := by kernel_rfl
theorem ft_abi_Type_5 : ftB Try.prog 213 5 5 5 = true := by kernel_rfl
theorem fo_abi_Type_6 : foB Try.prog 213 6 6 = true := by kernel_rfl
theorem ft_abi_Type_6 : ftB Try.prog 213 6 6 207 = true := by kernel_rfl
theorem fo_abi_Type_7 : foB Try.prog 213 7 7 = true := by kernel_rfl
theorem ft_abi_Type_7 : ftB Try.prog 213 7 7 208 = true := by kernel_rfl
theorem fo_abi_Type_8 : foB Try.prog 213 8 8 = true := by kernel_rfl
theorem ft_abi_Type_8 : ftB Try.prog 213 8 8 209 = true := by kernel_rfl
theorem fo_abi_Type_9 : foB Try.prog 213 9 9 = true := by kernel_rfl
theorem ft_abi_Type_9 : ftB Try.prog 213 9 9 210 = true := by kernel_rfl
theorem fo_abi_Type_10 : foB Try.prog 213 10 10 = true := by kernel_rfl
theorem ft_abi_Type_10 : ftB Try.prog 213 10 10 211 = true := by kernel_rfl
theorem st_abi_Type : stB Try.prog 213 [(12, 0, 1), (12, 1, 1), (173, 2, 1), (206, 3, 1), (5, 4, 1), (5, 5, 1), (207, 6, 1), (208, 7, 1), (209, 8, 1), (210, 9, 1), (211, 10, 1)] 11 = true := by kernel_rfl
theorem pl_abi_Type : plB Try.prog 213 = some [(0, 1), (1, 1), (2, 1), (3, 1), (4, 1), (5, 1), (6, 1), (7, 1), (8, 1), (9, 1), (10, 1)] := by kernel_rfl
theorem zv_abi_Type : zvB Try.prog 213 = some (some [.int .u64 0, .int .u64 0, .int .u32 0, .int .u8 0, .int .u8 0, .int .u8 0, .int .u8 0, .nilFunc, .pointer none, .int .i32 0, .int .i32 0]) := by kernel_rfl
theorem us_abi_Type : (Try.prog.underlying 213).isSome = true := by kernel_rfl
theorem by_unsafe_Pointer : Try.prog.bytesOf 214 = 8 := by kernel_rfl
theorem tf_unsafe_Pointer : tfB Try.prog 214 false 1 = true := by kernel_rfl
theorem zv_unsafe_Pointer : zvB Try.prog 214 = some (some [.pointer none]) := by kernel_rfl
theorem us_unsafe_Pointer : (Try.prog.underlying 214).isSome = true := by kernel_rfl
theorem en_almagestlaw12_GuardCompares : Enters Try.prog 3 := enters_of Try.func3 (by kernel_rfl) (by kernel_rfl)
theorem en_almagestlaw9_FactsOrder : Enters Try.prog 4 := enters_of Try.func4 (by kernel_rfl) (by kernel_rfl)
theorem en_almagestlaw3_UnifyOccurs : Enters Try.prog 5 := enters_of Try.func5 (by kernel_rfl) (by kernel_rfl)
theorem en_almagestlaw3_UnifyDeep : Enters Try.prog 6 := enters_of Try.func6 (by kernel_rfl) (by kernel_rfl)
theorem en_almagestlaw2_BindTwice : Enters Try.prog 7 := enters_of Try.func7 (by kernel_rfl) (by kernel_rfl)
theorem en_almagestlaw3_UnifyAlike : Enters Try.prog 8 := enters_of Try.func8 (by kernel_rfl) (by kernel_rfl)
theorem en_almagestlaw9_FactsAdded : Enters Try.prog 9 := enters_of Try.func9 (by kernel_rfl) (by kernel_rfl)
theorem en_almagestlaw12_Heavy : Enters Try.prog 10 := enters_of Try.func10 (by kernel_rfl) (by kernel_rfl)
theorem en_guard_Compare : Enters Try.prog 11 := enters_of Try.func11 (by kernel_rfl) (by kernel_rfl)
theorem en_almagestref0_Between : Enters Try.prog 12 := enters_of Try.func12 (by kernel_rfl) (by kernel_rfl)
theorem en_almagestref1_Term : Enters Try.prog 13 := enters_of Try.func13 (by kernel_rfl) (by kernel_rfl)
theorem en_almagestref1_Ground : Enters Try.prog 14 := enters_of Try.func14 (by kernel_rfl) (by kernel_rfl)
theorem en_almagestref10_Compare : Enters Try.prog 15 := enters_of Try.func15 (by kernel_rfl) (by kernel_rfl)
theorem en_almagestlaw12_num : Enters Try.prog 16 := enters_of Try.func16 (by kernel_rfl) (by kernel_rfl)
theorem en_almagestlaw12_wakes : Enters Try.prog 17 := enters_of Try.func17 (by kernel_rfl) (by kernel_rfl)
theorem en_almagestlaw9_Heavy : Enters Try.prog 18 := enters_of Try.func18 (by kernel_rfl) (by kernel_rfl)
theorem en_facts_Order : Enters Try.prog 19 := enters_of Try.func19 (by kernel_rfl) (by kernel_rfl)
theorem en_almagestref7_Fact : Enters Try.prog 20 := enters_of Try.func20 (by kernel_rfl) (by kernel_rfl)
theorem en_almagestref7_Order : Enters Try.prog 21 := enters_of Try.func21 (by kernel_rfl) (by kernel_rfl)
theorem en_almagestlaw9_num : Enters Try.prog 22 := enters_of Try.func22 (by kernel_rfl) (by kernel_rfl)
theorem en_almagestref0_EqFact : Enters Try.prog 23 := enters_of Try.func23 (by kernel_rfl) (by kernel_rfl)
theorem en_almagestref1_Name : Enters Try.prog 24 := enters_of Try.func24 (by kernel_rfl) (by kernel_rfl)
theorem en_almagestlaw9_wakes : Enters Try.prog 25 := enters_of Try.func25 (by kernel_rfl) (by kernel_rfl)
theorem en_almagestlaw3_variable : Enters Try.prog 26 := enters_of Try.func26 (by kernel_rfl) (by kernel_rfl)
theorem en_unify_Unify : Enters Try.prog 27 := enters_of Try.func27 (by kernel_rfl) (by kernel_rfl)
theorem en_almagestlaw3_name : Enters Try.prog 28 := enters_of Try.func28 (by kernel_rfl) (by kernel_rfl)
theorem en_almagestlaw3_num : Enters Try.prog 29 := enters_of Try.func29 (by kernel_rfl) (by kernel_rfl)
theorem en_almagestlaw3_wakes : Enters Try.prog 30 := enters_of Try.func30 (by kernel_rfl) (by kernel_rfl)
theorem en_almagestref0_EqTerm : Enters Try.prog 31 := enters_of Try.func31 (by kernel_rfl) (by kernel_rfl)
theorem en_almagestlaw2_Heavy : Enters Try.prog 32 := enters_of Try.func32 (by kernel_rfl) (by kernel_rfl)
theorem en_bind_Apply : Enters Try.prog 33 := enters_of Try.func33 (by kernel_rfl) (by kernel_rfl)
theorem en_almagestlaw2_num : Enters Try.prog 34 := enters_of Try.func34 (by kernel_rfl) (by kernel_rfl)
theorem en_bind_Set : Enters Try.prog 35 := enters_of Try.func35 (by kernel_rfl) (by kernel_rfl)
theorem en_bind_Get : Enters Try.prog 36 := enters_of Try.func36 (by kernel_rfl) (by kernel_rfl)
theorem en_bind_Check : Enters Try.prog 37 := enters_of Try.func37 (by kernel_rfl) (by kernel_rfl)
theorem en_bind_Join : Enters Try.prog 38 := enters_of Try.func38 (by kernel_rfl) (by kernel_rfl)
theorem en_almagestref0_EqBinds : Enters Try.prog 39 := enters_of Try.func39 (by kernel_rfl) (by kernel_rfl)
theorem en_almagestlaw2_wakes : Enters Try.prog 40 := enters_of Try.func40 (by kernel_rfl) (by kernel_rfl)
theorem en_unify_Match : Enters Try.prog 41 := enters_of Try.func41 (by kernel_rfl) (by kernel_rfl)
theorem en_facts_Add : Enters Try.prog 42 := enters_of Try.func42 (by kernel_rfl) (by kernel_rfl)
theorem en_facts_Find : Enters Try.prog 43 := enters_of Try.func43 (by kernel_rfl) (by kernel_rfl)
theorem en_facts_Sorted : Enters Try.prog 44 := enters_of Try.func44 (by kernel_rfl) (by kernel_rfl)
theorem en_almagestlaw0_GuardsWeight : Enters Try.prog 45 := enters_of Try.func45 (by kernel_rfl) (by kernel_rfl)
theorem en_almagestlaw0_BindsWeight : Enters Try.prog 46 := enters_of Try.func46 (by kernel_rfl) (by kernel_rfl)
theorem en_almagestlaw11_Heavy : Enters Try.prog 47 := enters_of Try.func47 (by kernel_rfl) (by kernel_rfl)
theorem en_term_May : Enters Try.prog 48 := enters_of Try.func48 (by kernel_rfl) (by kernel_rfl)
theorem en_term_Is : Enters Try.prog 49 := enters_of Try.func49 (by kernel_rfl) (by kernel_rfl)
theorem en_known_Compare : Enters Try.prog 50 := enters_of Try.func50 (by kernel_rfl) (by kernel_rfl)
theorem en_almagestref1_size : Enters Try.prog 51 := enters_of Try.func51 (by kernel_rfl) (by kernel_rfl)
theorem en_almagestref1_Vars : Enters Try.prog 52 := enters_of Try.func52 (by kernel_rfl) (by kernel_rfl)
theorem en_almagestlaw0_KeptsWeight : Enters Try.prog 53 := enters_of Try.func53 (by kernel_rfl) (by kernel_rfl)
theorem en_almagestlaw0_TermWeight : Enters Try.prog 54 := enters_of Try.func54 (by kernel_rfl) (by kernel_rfl)
theorem en_facts_Is : Enters Try.prog 55 := enters_of Try.func55 (by kernel_rfl) (by kernel_rfl)
theorem en_facts_Compare : Enters Try.prog 56 := enters_of Try.func56 (by kernel_rfl) (by kernel_rfl)
theorem en_almagestref7_Span : Enters Try.prog 57 := enters_of Try.func57 (by kernel_rfl) (by kernel_rfl)
theorem en_almagestref1_Order : Enters Try.prog 58 := enters_of Try.func58 (by kernel_rfl) (by kernel_rfl)
theorem en_almagestref7_sign : Enters Try.prog 59 := enters_of Try.func59 (by kernel_rfl) (by kernel_rfl)
theorem en_almagestref1_word : Enters Try.prog 60 := enters_of Try.func60 (by kernel_rfl) (by kernel_rfl)
theorem en_bind_May : Enters Try.prog 61 := enters_of Try.func61 (by kernel_rfl) (by kernel_rfl)
theorem en_bind_Own : Enters Try.prog 62 := enters_of Try.func62 (by kernel_rfl) (by kernel_rfl)
theorem en_unify_one : Enters Try.prog 63 := enters_of Try.func63 (by kernel_rfl) (by kernel_rfl)
theorem en_slices_Concat_unify_pair_unify_pair : Enters Try.prog 64 := enters_of Try.func64 (by kernel_rfl) (by kernel_rfl)
theorem en_almagestref0_EqTerms : Enters Try.prog 65 := enters_of Try.func65 (by kernel_rfl) (by kernel_rfl)
theorem en_almagestlaw0_Terms : Enters Try.prog 66 := enters_of Try.func66 (by kernel_rfl) (by kernel_rfl)
theorem en_almagestlaw0_Texts : Enters Try.prog 67 := enters_of Try.func67 (by kernel_rfl) (by kernel_rfl)
theorem en_bind_Into : Enters Try.prog 68 := enters_of Try.func68 (by kernel_rfl) (by kernel_rfl)
theorem en_term_Var : Enters Try.prog 69 := enters_of Try.func69 (by kernel_rfl) (by kernel_rfl)
theorem en_bind_Set_1 : Enters Try.prog 70 := enters_of Try.func70 (by kernel_rfl) (by kernel_rfl)
theorem en_bind_find : Enters Try.prog 71 := enters_of Try.func71 (by kernel_rfl) (by kernel_rfl)
theorem en_slices_ContainsFunc_string_string : Enters Try.prog 72 := enters_of Try.func72 (by kernel_rfl) (by kernel_rfl)
theorem en_term_Names : Enters Try.prog 73 := enters_of Try.func73 (by kernel_rfl) (by kernel_rfl)
theorem en_bind_Stand : Enters Try.prog 74 := enters_of Try.func74 (by kernel_rfl) (by kernel_rfl)
theorem en_bind_Look : Enters Try.prog 75 := enters_of Try.func75 (by kernel_rfl) (by kernel_rfl)
theorem en_term_Own : Enters Try.prog 76 := enters_of Try.func76 (by kernel_rfl) (by kernel_rfl)
theorem en_bind_Ground : Enters Try.prog 77 := enters_of Try.func77 (by kernel_rfl) (by kernel_rfl)
theorem en_bind_Both : Enters Try.prog 78 := enters_of Try.func78 (by kernel_rfl) (by kernel_rfl)
theorem en_almagestref0_EqBind : Enters Try.prog 79 := enters_of Try.func79 (by kernel_rfl) (by kernel_rfl)
theorem en_unify_Fit : Enters Try.prog 80 := enters_of Try.func80 (by kernel_rfl) (by kernel_rfl)
theorem en_facts_List : Enters Try.prog 81 := enters_of Try.func81 (by kernel_rfl) (by kernel_rfl)
theorem en_facts_At : Enters Try.prog 82 := enters_of Try.func82 (by kernel_rfl) (by kernel_rfl)
theorem en_facts_Owns : Enters Try.prog 83 := enters_of Try.func83 (by kernel_rfl) (by kernel_rfl)
theorem en_facts_Own : Enters Try.prog 84 := enters_of Try.func84 (by kernel_rfl) (by kernel_rfl)
theorem en_slices_SortFunc_api_Fact_api_Fact : Enters Try.prog 85 := enters_of Try.func85 (by kernel_rfl) (by kernel_rfl)
theorem en_almagestlaw0_ClausesWeight : Enters Try.prog 86 := enters_of Try.func86 (by kernel_rfl) (by kernel_rfl)
theorem en_term_may : Enters Try.prog 87 := enters_of Try.func87 (by kernel_rfl) (by kernel_rfl)
theorem en_term_Compare : Enters Try.prog 88 := enters_of Try.func88 (by kernel_rfl) (by kernel_rfl)
theorem en_almagestref1_Var : Enters Try.prog 89 := enters_of Try.func89 (by kernel_rfl) (by kernel_rfl)
theorem en_almagestref1_Names : Enters Try.prog 90 := enters_of Try.func90 (by kernel_rfl) (by kernel_rfl)
theorem en_span_May : Enters Try.prog 91 := enters_of Try.func91 (by kernel_rfl) (by kernel_rfl)
theorem en_cmp_Or_int : Enters Try.prog 92 := enters_of Try.func92 (by kernel_rfl) (by kernel_rfl)
theorem en_cmp_Compare_int : Enters Try.prog 93 := enters_of Try.func93 (by kernel_rfl) (by kernel_rfl)
theorem en_almagestref1_sign : Enters Try.prog 94 := enters_of Try.func94 (by kernel_rfl) (by kernel_rfl)
theorem en_almagestref1_text : Enters Try.prog 95 := enters_of Try.func95 (by kernel_rfl) (by kernel_rfl)
theorem en_almagestref1_tail : Enters Try.prog 96 := enters_of Try.func96 (by kernel_rfl) (by kernel_rfl)
theorem en_bind_May_1 : Enters Try.prog 97 := enters_of Try.func97 (by kernel_rfl) (by kernel_rfl)
theorem en_bind_terms : Enters Try.prog 98 := enters_of Try.func98 (by kernel_rfl) (by kernel_rfl)
theorem en_unify_stands : Enters Try.prog 99 := enters_of Try.func99 (by kernel_rfl) (by kernel_rfl)
theorem en_unify_args : Enters Try.prog 100 := enters_of Try.func100 (by kernel_rfl) (by kernel_rfl)
theorem en_slices_Grow_unify_pair_unify_pair : Enters Try.prog 101 := enters_of Try.func101 (by kernel_rfl) (by kernel_rfl)
theorem en_bind_Put : Enters Try.prog 102 := enters_of Try.func102 (by kernel_rfl) (by kernel_rfl)
theorem en_term_word : Enters Try.prog 103 := enters_of Try.func103 (by kernel_rfl) (by kernel_rfl)
theorem en_term_great : Enters Try.prog 104 := enters_of Try.func104 (by kernel_rfl) (by kernel_rfl)
theorem en_slices_BinarySearchFunc_api_Bind_api_Bind_string : Enters Try.prog 105 := enters_of Try.func105 (by kernel_rfl) (by kernel_rfl)
theorem en_bind_find_1 : Enters Try.prog 106 := enters_of Try.func106 (by kernel_rfl) (by kernel_rfl)
theorem en_strings_Compare : Enters Try.prog 107 := enters_of Try.func107 (by kernel_rfl) (by kernel_rfl)
theorem en_slices_IndexFunc_string_string : Enters Try.prog 108 := enters_of Try.func108 (by kernel_rfl) (by kernel_rfl)
theorem en_term_Note : Enters Try.prog 109 := enters_of Try.func109 (by kernel_rfl) (by kernel_rfl)
theorem en_slices_Sorted_string : Enters Try.prog 110 := enters_of Try.func110 (by kernel_rfl) (by kernel_rfl)
theorem en_maps_Keys_map_string_bool_string_bool : Enters Try.prog 111 := enters_of Try.func111 (by kernel_rfl) (by kernel_rfl)
theorem en_slices_Insert_api_Bind_api_Bind : Enters Try.prog 112 := enters_of Try.func112 (by kernel_rfl) (by kernel_rfl)
theorem en_term_Turned : Enters Try.prog 113 := enters_of Try.func113 (by kernel_rfl) (by kernel_rfl)
theorem en_term_Own_1 : Enters Try.prog 114 := enters_of Try.func114 (by kernel_rfl) (by kernel_rfl)
theorem en_slices_Clone_api_Bind_api_Bind : Enters Try.prog 115 := enters_of Try.func115 (by kernel_rfl) (by kernel_rfl)
theorem en_facts_Of : Enters Try.prog 116 := enters_of Try.func116 (by kernel_rfl) (by kernel_rfl)
theorem en_slices_IndexFunc_api_Kept_api_Kept : Enters Try.prog 117 := enters_of Try.func117 (by kernel_rfl) (by kernel_rfl)
theorem en_facts_At_1 : Enters Try.prog 118 := enters_of Try.func118 (by kernel_rfl) (by kernel_rfl)
theorem en_slices_pdqsortCmpFunc_api_Fact : Enters Try.prog 119 := enters_of Try.func119 (by kernel_rfl) (by kernel_rfl)
theorem en_math_bits_Len : Enters Try.prog 120 := enters_of Try.func120 (by kernel_rfl) (by kernel_rfl)
theorem en_term_Number : Enters Try.prog 121 := enters_of Try.func121 (by kernel_rfl) (by kernel_rfl)
theorem en_term_may_1 : Enters Try.prog 122 := enters_of Try.func122 (by kernel_rfl) (by kernel_rfl)
theorem en_term_Name : Enters Try.prog 123 := enters_of Try.func123 (by kernel_rfl) (by kernel_rfl)
theorem en_slices_ContainsFunc_api_Term_api_Term : Enters Try.prog 124 := enters_of Try.func124 (by kernel_rfl) (by kernel_rfl)
theorem en_slices_CompareFunc_api_Term_api_Term_api_Term_api_Term : Enters Try.prog 125 := enters_of Try.func125 (by kernel_rfl) (by kernel_rfl)
theorem en_almagestref0_CopyStrings : Enters Try.prog 126 := enters_of Try.func126 (by kernel_rfl) (by kernel_rfl)
theorem en_cmp_isNaN_int : Enters Try.prog 127 := enters_of Try.func127 (by kernel_rfl) (by kernel_rfl)
theorem en_slices_Contains_string_string : Enters Try.prog 128 := enters_of Try.func128 (by kernel_rfl) (by kernel_rfl)
theorem en_bind_Put_1 : Enters Try.prog 129 := enters_of Try.func129 (by kernel_rfl) (by kernel_rfl)
theorem en_term_Inner : Enters Try.prog 130 := enters_of Try.func130 (by kernel_rfl) (by kernel_rfl)
theorem en_internal_bytealg_CompareString : Enters Try.prog 131 := enters_of Try.func131 (by kernel_rfl) (by kernel_rfl)
theorem en_slices_Collect_string : Enters Try.prog 132 := enters_of Try.func132 (by kernel_rfl) (by kernel_rfl)
theorem en_slices_Sort_string_string : Enters Try.prog 133 := enters_of Try.func133 (by kernel_rfl) (by kernel_rfl)
theorem en_maps_Keys_map_string_bool_string_bool_1 : Enters Try.prog 134 := enters_of Try.func134 (by kernel_rfl) (by kernel_rfl)
theorem en_slices_rotateRight_api_Bind : Enters Try.prog 136 := enters_of Try.func136 (by kernel_rfl) (by kernel_rfl)
theorem en_term_Key : Enters Try.prog 137 := enters_of Try.func137 (by kernel_rfl) (by kernel_rfl)
theorem en_slices_insertionSortCmpFunc_api_Fact : Enters Try.prog 138 := enters_of Try.func138 (by kernel_rfl) (by kernel_rfl)
theorem en_slices_heapSortCmpFunc_api_Fact : Enters Try.prog 139 := enters_of Try.func139 (by kernel_rfl) (by kernel_rfl)
theorem en_slices_breakPatternsCmpFunc_api_Fact : Enters Try.prog 140 := enters_of Try.func140 (by kernel_rfl) (by kernel_rfl)
theorem en_slices_choosePivotCmpFunc_api_Fact : Enters Try.prog 141 := enters_of Try.func141 (by kernel_rfl) (by kernel_rfl)
theorem en_slices_reverseRangeCmpFunc_api_Fact : Enters Try.prog 142 := enters_of Try.func142 (by kernel_rfl) (by kernel_rfl)
theorem en_slices_partialInsertionSortCmpFunc_api_Fact : Enters Try.prog 143 := enters_of Try.func143 (by kernel_rfl) (by kernel_rfl)
theorem en_slices_partitionEqualCmpFunc_api_Fact : Enters Try.prog 144 := enters_of Try.func144 (by kernel_rfl) (by kernel_rfl)
theorem en_slices_partitionCmpFunc_api_Fact : Enters Try.prog 145 := enters_of Try.func145 (by kernel_rfl) (by kernel_rfl)
theorem en_math_bits_Len32 : Enters Try.prog 146 := enters_of Try.func146 (by kernel_rfl) (by kernel_rfl)
theorem en_math_bits_Len64 : Enters Try.prog 147 := enters_of Try.func147 (by kernel_rfl) (by kernel_rfl)
theorem en_term_small : Enters Try.prog 148 := enters_of Try.func148 (by kernel_rfl) (by kernel_rfl)
theorem en_slices_IndexFunc_api_Term_api_Term : Enters Try.prog 149 := enters_of Try.func149 (by kernel_rfl) (by kernel_rfl)
theorem en_slices_Index_string_string : Enters Try.prog 150 := enters_of Try.func150 (by kernel_rfl) (by kernel_rfl)
theorem en_term_digit : Enters Try.prog 151 := enters_of Try.func151 (by kernel_rfl) (by kernel_rfl)
theorem en_slices_AppendSeq_string_string : Enters Try.prog 153 := enters_of Try.func153 (by kernel_rfl) (by kernel_rfl)
theorem en_slices_pdqsortOrdered_string : Enters Try.prog 154 := enters_of Try.func154 (by kernel_rfl) (by kernel_rfl)
theorem en_slices_rotateLeft_api_Bind : Enters Try.prog 155 := enters_of Try.func155 (by kernel_rfl) (by kernel_rfl)
theorem en_slices_siftDownCmpFunc_api_Fact : Enters Try.prog 156 := enters_of Try.func156 (by kernel_rfl) (by kernel_rfl)
theorem en_slices_nextPowerOfTwo : Enters Try.prog 157 := enters_of Try.func157 (by kernel_rfl) (by kernel_rfl)
theorem en_slices_xorshift_Next : Enters Try.prog 158 := enters_of Try.func158 (by kernel_rfl) (by kernel_rfl)
theorem en_slices_medianAdjacentCmpFunc_api_Fact : Enters Try.prog 159 := enters_of Try.func159 (by kernel_rfl) (by kernel_rfl)
theorem en_slices_medianCmpFunc_api_Fact : Enters Try.prog 160 := enters_of Try.func160 (by kernel_rfl) (by kernel_rfl)
theorem en_slices_insertionSortOrdered_string : Enters Try.prog 161 := enters_of Try.func161 (by kernel_rfl) (by kernel_rfl)
theorem en_slices_heapSortOrdered_string : Enters Try.prog 162 := enters_of Try.func162 (by kernel_rfl) (by kernel_rfl)
theorem en_slices_breakPatternsOrdered_string : Enters Try.prog 163 := enters_of Try.func163 (by kernel_rfl) (by kernel_rfl)
theorem en_slices_choosePivotOrdered_string : Enters Try.prog 164 := enters_of Try.func164 (by kernel_rfl) (by kernel_rfl)
theorem en_slices_reverseRangeOrdered_string : Enters Try.prog 165 := enters_of Try.func165 (by kernel_rfl) (by kernel_rfl)
theorem en_slices_partialInsertionSortOrdered_string : Enters Try.prog 166 := enters_of Try.func166 (by kernel_rfl) (by kernel_rfl)
theorem en_cmp_Less_string : Enters Try.prog 167 := enters_of Try.func167 (by kernel_rfl) (by kernel_rfl)
theorem en_slices_partitionEqualOrdered_string : Enters Try.prog 168 := enters_of Try.func168 (by kernel_rfl) (by kernel_rfl)
theorem en_slices_partitionOrdered_string : Enters Try.prog 169 := enters_of Try.func169 (by kernel_rfl) (by kernel_rfl)
theorem en_slices_Reverse_api_Bind_api_Bind : Enters Try.prog 170 := enters_of Try.func170 (by kernel_rfl) (by kernel_rfl)
theorem en_slices_order2CmpFunc_api_Fact : Enters Try.prog 171 := enters_of Try.func171 (by kernel_rfl) (by kernel_rfl)
theorem en_slices_siftDownOrdered_string : Enters Try.prog 172 := enters_of Try.func172 (by kernel_rfl) (by kernel_rfl)
theorem en_slices_medianAdjacentOrdered_string : Enters Try.prog 173 := enters_of Try.func173 (by kernel_rfl) (by kernel_rfl)
theorem en_slices_medianOrdered_string : Enters Try.prog 174 := enters_of Try.func174 (by kernel_rfl) (by kernel_rfl)
theorem en_cmp_isNaN_string : Enters Try.prog 175 := enters_of Try.func175 (by kernel_rfl) (by kernel_rfl)
theorem en_slices_order2Ordered_string : Enters Try.prog 176 := enters_of Try.func176 (by kernel_rfl) (by kernel_rfl)
theorem mixed : Try.prog.follows .mixedOrders = true := by kernel_rfl
end Go.Proofs.Ytdecgkhdbfgldaa
