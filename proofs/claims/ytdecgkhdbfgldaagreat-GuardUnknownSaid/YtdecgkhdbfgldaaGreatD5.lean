/- Part 5 of the proof: Ty, Rd, Tw, Fa, Top, Fb. -/
import Derived.Test.YtdecgkhdbfgldaaGreatD4
import Derived.Test.YtdecgkhdbfgldaaGreatProg
import Derived.WalkKit
import Derived.ProofKit
import Derived.OpenShut
import Derived.ShutString
import Derived.ChangeOld
import Derived.Below
import Derived.SizedLaws
import Derived.JoinedOf
set_option linter.unusedVariables false
set_option maxRecDepth 10000
namespace Go.Proofs.YtdecgkhdbfgldaaGreat
open Go
theorem qay : tfB Tryz.prog 3 false 1 = true := by kernel_rfl
theorem zv_int : zvB Tryz.prog 3 = some (some [.int .i64 0]) := by kernel_rfl
theorem ul_int : Tryz.prog.underlying 3 = some (.int .i64) := by kernel_rfl
theorem us_int : (Tryz.prog.underlying 3).isSome = true := by kernel_rfl
theorem ul_bool : Tryz.prog.underlying 4 = some .bool := by kernel_rfl
theorem zv_uint8 : zvB Tryz.prog 5 = some (some [.int .u8 0]) := by kernel_rfl
theorem ul_uint8 : Tryz.prog.underlying 5 = some (.int .u8) := by kernel_rfl
theorem qT : tfB Tryz.prog 9 false 1 = true := by kernel_rfl
theorem zv_string : zvB Tryz.prog 9 = some (some [.string ⟨#[]⟩]) := by kernel_rfl
theorem qaY : Tryz.prog.underlying 9 = some .string := by kernel_rfl
theorem ul_int32 : Tryz.prog.underlying 21 = some (.int .i32) := by kernel_rfl
theorem us_int32 : (Tryz.prog.underlying 21).isSome = true := by kernel_rfl
theorem qc3 : tfB Tryz.prog 22 false 1 = true := by kernel_rfl
theorem qH : slB Tryz.prog 22 28 1 = true := by kernel_rfl
theorem qbw : TyA Tryz.prog 22 28 1 24 := ⟨qH, ⟨(.slice none 0 0 : Value), by kernel_rfl, rfl⟩, by decide⟩
theorem qF : tfB Tryz.prog 23 false 1 = true := by kernel_rfl
theorem qv : slB Tryz.prog 23 35 4 = true := by kernel_rfl
theorem ta_S_api_Term : TyA Tryz.prog 23 35 4 56 := ⟨qv, ⟨.agg #[.int .i64 0, .string ⟨#[]⟩, .int .i64 0, .slice none 0 0], by kernel_rfl, rfl⟩, by decide⟩
theorem qae : slB Tryz.prog 24 9 1 = true := by kernel_rfl
theorem qb4 : TyA Tryz.prog 24 9 1 16 := ⟨qae, ⟨(.string ⟨#[]⟩ : Value), by kernel_rfl, rfl⟩, by decide⟩
theorem by_S_api_Bind : Tryz.prog.bytesOf 28 = 24 := by kernel_rfl
theorem qap : tfB Tryz.prog 28 false 1 = true := by kernel_rfl
theorem qa4 : zvB Tryz.prog 28 = some (some [.slice none 0 0]) := by kernel_rfl
theorem qp : slB Tryz.prog 28 40 5 = true := by kernel_rfl
theorem qaW : TyA Tryz.prog 28 40 5 72 := ⟨qp, ⟨.agg #[.string ⟨#[]⟩, .int .i64 0, .string ⟨#[]⟩, .int .i64 0, .slice none 0 0], by kernel_rfl, rfl⟩, by decide⟩
theorem by_api_Term : Tryz.prog.bytesOf 35 = 56 := by kernel_rfl
theorem qi : tfB Tryz.prog 35 true 4 = true := by kernel_rfl
theorem q9 : foB Tryz.prog 35 0 0 = true := by kernel_rfl
theorem qad : foB Tryz.prog 35 1 1 = true := by kernel_rfl
theorem qaB : foB Tryz.prog 35 2 2 = true := by kernel_rfl
theorem qJ : foB Tryz.prog 35 3 3 = true := by kernel_rfl
theorem st_api_Term : stB Tryz.prog 35 [(3, 0, 1), (9, 1, 1), (3, 2, 1), (23, 3, 1)] 4 = true := by kernel_rfl
theorem qbT : plB Tryz.prog 35 = some [(0, 1), (1, 1), (2, 1), (3, 1)] := by kernel_rfl
theorem q6 : zvB Tryz.prog 35 = some (some [.int .i64 0, .string ⟨#[]⟩, .int .i64 0, .slice none 0 0]) := by kernel_rfl
theorem by_api_Bind : Tryz.prog.bytesOf 40 = 72 := by kernel_rfl
theorem qav : tfB Tryz.prog 40 true 5 = true := by kernel_rfl
theorem qai : foB Tryz.prog 40 0 0 = true := by kernel_rfl
theorem qan : foB Tryz.prog 40 1 1 = true := by kernel_rfl
theorem st_api_Bind : stB Tryz.prog 40 [(9, 0, 1), (35, 1, 4)] 5 = true := by kernel_rfl
theorem qcU : plB Tryz.prog 40 = some [(0, 1), (1, 4)] := by kernel_rfl
theorem qaD : zvB Tryz.prog 40 = some (some [.string ⟨#[]⟩, .int .i64 0, .string ⟨#[]⟩, .int .i64 0, .slice none 0 0]) := by kernel_rfl
theorem tf_S_api_Clause : tfB Tryz.prog 59 false 1 = true := by kernel_rfl
theorem qbY : slB Tryz.prog 59 106 6 = true := by kernel_rfl
theorem tf_almagestlaw11_Ask : tfB Tryz.prog 61 true 3 = true := by kernel_rfl
theorem fo_almagestlaw11_Ask_0 : foB Tryz.prog 61 0 0 = true := by kernel_rfl
theorem qbo : foB Tryz.prog 61 1 1 = true := by kernel_rfl
theorem fo_almagestlaw11_Ask_2 : foB Tryz.prog 61 2 2 = true := by kernel_rfl
theorem st_almagestlaw11_Ask : stB Tryz.prog 61 [(59, 0, 1), (23, 1, 1), (23, 2, 1)] 3 = true := by kernel_rfl
theorem qaR : tfB Tryz.prog 62 false 1 = true := by kernel_rfl
theorem qac : slB Tryz.prog 62 111 9 = true := by kernel_rfl
theorem ta_S_api_Guard : TyA Tryz.prog 62 111 9 120 := ⟨qac, ⟨.agg #[.int .i64 0, .int .i64 0, .string ⟨#[]⟩, .int .i64 0, .slice none 0 0, .int .i64 0, .string ⟨#[]⟩, .int .i64 0, .slice none 0 0], by kernel_rfl, rfl⟩, by decide⟩
theorem qaH : tfB Tryz.prog 64 true 5 = true := by kernel_rfl
theorem qbe : foB Tryz.prog 64 0 0 = true := by kernel_rfl
theorem qbM : foB Tryz.prog 64 1 3 = true := by kernel_rfl
theorem qaq : foB Tryz.prog 64 2 4 = true := by kernel_rfl
theorem qba : stB Tryz.prog 64 [(61, 0, 3), (22, 3, 1), (62, 4, 1)] 5 = true := by kernel_rfl
theorem zv_almagestlaw12_Ask : zvB Tryz.prog 64 = some (some [.slice none 0 0, .slice none 0 0, .slice none 0 0, .slice none 0 0, .slice none 0 0]) := by kernel_rfl
theorem sl_S_int : slB Tryz.prog 71 3 1 = true := by kernel_rfl
theorem by_api_Clause : Tryz.prog.bytesOf 106 = 104 := by kernel_rfl
theorem fo_api_Clause_0 : foB Tryz.prog 106 0 0 = true := by kernel_rfl
theorem fo_api_Clause_1 : foB Tryz.prog 106 1 4 = true := by kernel_rfl
theorem fo_api_Clause_2 : foB Tryz.prog 106 2 5 = true := by kernel_rfl
theorem st_api_Clause : stB Tryz.prog 106 [(35, 0, 4), (23, 4, 1), (62, 5, 1)] 6 = true := by kernel_rfl
theorem by_api_Guard : Tryz.prog.bytesOf 111 = 120 := by kernel_rfl
theorem qaz : tfB Tryz.prog 111 true 9 = true := by kernel_rfl
theorem qaS : foB Tryz.prog 111 0 0 = true := by kernel_rfl
theorem qaO : foB Tryz.prog 111 1 1 = true := by kernel_rfl
theorem qa1 : foB Tryz.prog 111 2 5 = true := by kernel_rfl
theorem st_api_Guard : stB Tryz.prog 111 [(3, 0, 1), (35, 1, 4), (35, 5, 4)] 9 = true := by kernel_rfl
theorem qcn : zvB Tryz.prog 111 = some (some [.int .i64 0, .int .i64 0, .string ⟨#[]⟩, .int .i64 0, .slice none 0 0, .int .i64 0, .string ⟨#[]⟩, .int .i64 0, .slice none 0 0]) := by kernel_rfl
theorem ul_uint : Tryz.prog.underlying 159 = some (.int .u64) := by kernel_rfl
theorem us_uint : (Tryz.prog.underlying 159).isSome = true := by kernel_rfl
theorem tf_P_int : tfB Tryz.prog 168 false 1 = true := by kernel_rfl
theorem qc2 : Tryz.prog.underlying 173 = some (.map 9 4) := by kernel_rfl
theorem ul_uint32 : Tryz.prog.underlying 235 = some (.int .u32) := by kernel_rfl
theorem us_uint32 : (Tryz.prog.underlying 235).isSome = true := by kernel_rfl
theorem sl_S_uint8 : slB Tryz.prog 241 5 1 = true := by kernel_rfl
theorem ta_S_uint8 : TyA Tryz.prog 241 5 1 1 := ⟨sl_S_uint8, ⟨(.int .u8 0 : Value), by kernel_rfl, rfl⟩, by decide⟩
theorem qc6 : slB Tryz.prog 247 251 8 = true := by kernel_rfl
theorem ta_S_unify_pair : TyA Tryz.prog 247 251 8 112 := ⟨qc6, ⟨.agg #[.int .i64 0, .string ⟨#[]⟩, .int .i64 0, .slice none 0 0, .int .i64 0, .string ⟨#[]⟩, .int .i64 0, .slice none 0 0], by kernel_rfl, rfl⟩, by decide⟩
theorem tf_unify_pair : tfB Tryz.prog 251 true 8 = true := by kernel_rfl
theorem zv_unify_pair : zvB Tryz.prog 251 = some (some [.int .i64 0, .string ⟨#[]⟩, .int .i64 0, .slice none 0 0, .int .i64 0, .string ⟨#[]⟩, .int .i64 0, .slice none 0 0]) := by kernel_rfl
theorem qaP : qX Tryz.prog 17 := qE Tryz.func17 (by kernel_rfl) (by kernel_rfl)
theorem en_almagestref1_Binds : qX Tryz.prog 18 := qE Tryz.func18 (by kernel_rfl) (by kernel_rfl)
theorem qcj : qX Tryz.prog 22 := qE Tryz.func22 (by kernel_rfl) (by kernel_rfl)
theorem qaC : qX Tryz.prog 23 := qE Tryz.func23 (by kernel_rfl) (by kernel_rfl)
theorem qaK : qX Tryz.prog 25 := qE Tryz.func25 (by kernel_rfl) (by kernel_rfl)
theorem qbH : qX Tryz.prog 28 := qE Tryz.func28 (by kernel_rfl) (by kernel_rfl)
theorem en_almagestlaw0_Binds : qX Tryz.prog 29 := qE Tryz.func29 (by kernel_rfl) (by kernel_rfl)
theorem qcv : qX Tryz.prog 31 := qE Tryz.func31 (by kernel_rfl) (by kernel_rfl)
theorem en_almagestref1_Fixed : qX Tryz.prog 34 := qE Tryz.func34 (by kernel_rfl) (by kernel_rfl)
theorem en_almagestref1_Join : qX Tryz.prog 35 := qE Tryz.func35 (by kernel_rfl) (by kernel_rfl)
theorem en_almagestlaw12_Heavy : qX Tryz.prog 38 := qE Tryz.func38 (by kernel_rfl) (by kernel_rfl)
theorem en_guard_Holds : qX Tryz.prog 39 := qE Tryz.func39 (by kernel_rfl) (by kernel_rfl)
theorem en_almagestlaw12_num : qX Tryz.prog 40 := qE Tryz.func40 (by kernel_rfl) (by kernel_rfl)
theorem en_almagestlaw12_wakes : qX Tryz.prog 41 := qE Tryz.func41 (by kernel_rfl) (by kernel_rfl)
theorem qbs : qX Tryz.prog 42 := qE Tryz.func42 (by kernel_rfl) (by kernel_rfl)
theorem en_almagestlaw11_Heavy : qX Tryz.prog 71 := qE Tryz.func71 (by kernel_rfl) (by kernel_rfl)
theorem en_almagestref0_EqTerms : qX Tryz.prog 75 := qE Tryz.func75 (by kernel_rfl) (by kernel_rfl)
theorem qcx : qX Tryz.prog 78 := qE Tryz.func78 (by kernel_rfl) (by kernel_rfl)
theorem en_almagestlaw0_BindsWeight : qX Tryz.prog 80 := qE Tryz.func80 (by kernel_rfl) (by kernel_rfl)
theorem qb0 : qX Tryz.prog 81 := qE Tryz.func81 (by kernel_rfl) (by kernel_rfl)
theorem qbL : qX Tryz.prog 82 := qE Tryz.func82 (by kernel_rfl) (by kernel_rfl)
theorem qcH : qX Tryz.prog 83 := qE Tryz.func83 (by kernel_rfl) (by kernel_rfl)
theorem en_bind_May : qX Tryz.prog 84 := qE Tryz.func84 (by kernel_rfl) (by kernel_rfl)
theorem en_bind_Look : qX Tryz.prog 85 := qE Tryz.func85 (by kernel_rfl) (by kernel_rfl)
theorem en_term_Own : qX Tryz.prog 86 := qE Tryz.func86 (by kernel_rfl) (by kernel_rfl)
theorem en_term_Var : qX Tryz.prog 87 := qE Tryz.func87 (by kernel_rfl) (by kernel_rfl)
theorem qa2 : qX Tryz.prog 88 := qE Tryz.func88 (by kernel_rfl) (by kernel_rfl)
theorem en_bind_find : qX Tryz.prog 90 := qE Tryz.func90 (by kernel_rfl) (by kernel_rfl)
theorem qcN : qX Tryz.prog 91 := qE Tryz.func91 (by kernel_rfl) (by kernel_rfl)
theorem en_term_Names : qX Tryz.prog 92 := qE Tryz.func92 (by kernel_rfl) (by kernel_rfl)
theorem en_bind_Stand : qX Tryz.prog 93 := qE Tryz.func93 (by kernel_rfl) (by kernel_rfl)
theorem qcF : qX Tryz.prog 94 := qE Tryz.func94 (by kernel_rfl) (by kernel_rfl)
theorem qa5 : qX Tryz.prog 95 := qE Tryz.func95 (by kernel_rfl) (by kernel_rfl)
theorem en_almagestref0_EqBind : qX Tryz.prog 96 := qE Tryz.func96 (by kernel_rfl) (by kernel_rfl)
theorem en_almagestlaw0_Term : qX Tryz.prog 97 := qE Tryz.func97 (by kernel_rfl) (by kernel_rfl)
theorem en_bind_Into : qX Tryz.prog 98 := qE Tryz.func98 (by kernel_rfl) (by kernel_rfl)
theorem qdf : qX Tryz.prog 99 := qE Tryz.func99 (by kernel_rfl) (by kernel_rfl)
theorem en_bind_Ground : qX Tryz.prog 100 := qE Tryz.func100 (by kernel_rfl) (by kernel_rfl)
theorem en_bind_Both : qX Tryz.prog 101 := qE Tryz.func101 (by kernel_rfl) (by kernel_rfl)
theorem en_bind_Own : qX Tryz.prog 102 := qE Tryz.func102 (by kernel_rfl) (by kernel_rfl)
theorem qa3 : qX Tryz.prog 103 := qE Tryz.func103 (by kernel_rfl) (by kernel_rfl)
theorem qck : qX Tryz.prog 108 := qE Tryz.func108 (by kernel_rfl) (by kernel_rfl)
theorem en_known_Atoms : qX Tryz.prog 109 := qE Tryz.func109 (by kernel_rfl) (by kernel_rfl)
theorem en_show_Guards : qX Tryz.prog 110 := qE Tryz.func110 (by kernel_rfl) (by kernel_rfl)
theorem en_guard_All : qX Tryz.prog 111 := qE Tryz.func111 (by kernel_rfl) (by kernel_rfl)
theorem en_guard_Compare : qX Tryz.prog 112 := qE Tryz.func112 (by kernel_rfl) (by kernel_rfl)
theorem qcw : qX Tryz.prog 113 := qE Tryz.func113 (by kernel_rfl) (by kernel_rfl)
theorem qaV : qX Tryz.prog 115 := qE Tryz.func115 (by kernel_rfl) (by kernel_rfl)
theorem qcs : qX Tryz.prog 135 := qE Tryz.func135 (by kernel_rfl) (by kernel_rfl)
theorem en_almagestlaw0_ClausesWeight : qX Tryz.prog 136 := qE Tryz.func136 (by kernel_rfl) (by kernel_rfl)
theorem qcu : qX Tryz.prog 137 := qE Tryz.func137 (by kernel_rfl) (by kernel_rfl)
theorem qcY : qX Tryz.prog 138 := qE Tryz.func138 (by kernel_rfl) (by kernel_rfl)
theorem en_known_Answers : qX Tryz.prog 139 := qE Tryz.func139 (by kernel_rfl) (by kernel_rfl)
theorem en_almagestref1_word : qX Tryz.prog 140 := qE Tryz.func140 (by kernel_rfl) (by kernel_rfl)
theorem en_almagestref1_Names : qX Tryz.prog 141 := qE Tryz.func141 (by kernel_rfl) (by kernel_rfl)
theorem en_bind_May_1 : qX Tryz.prog 142 := qE Tryz.func142 (by kernel_rfl) (by kernel_rfl)
theorem en_bind_terms : qX Tryz.prog 143 := qE Tryz.func143 (by kernel_rfl) (by kernel_rfl)
theorem en_term_Turned : qX Tryz.prog 144 := qE Tryz.func144 (by kernel_rfl) (by kernel_rfl)
theorem en_term_Own_1 : qX Tryz.prog 145 := qE Tryz.func145 (by kernel_rfl) (by kernel_rfl)
theorem en_term_word : qX Tryz.prog 146 := qE Tryz.func146 (by kernel_rfl) (by kernel_rfl)
theorem en_term_great : qX Tryz.prog 147 := qE Tryz.func147 (by kernel_rfl) (by kernel_rfl)
theorem en_term_may : qX Tryz.prog 148 := qE Tryz.func148 (by kernel_rfl) (by kernel_rfl)
theorem qbK : qX Tryz.prog 149 := qE Tryz.func149 (by kernel_rfl) (by kernel_rfl)
theorem en_bind_find_1 : qX Tryz.prog 150 := qE Tryz.func150 (by kernel_rfl) (by kernel_rfl)
theorem en_strings_Compare : qX Tryz.prog 151 := qE Tryz.func151 (by kernel_rfl) (by kernel_rfl)
theorem qdb : qX Tryz.prog 152 := qE Tryz.func152 (by kernel_rfl) (by kernel_rfl)
theorem en_term_Note : qX Tryz.prog 153 := qE Tryz.func153 (by kernel_rfl) (by kernel_rfl)
theorem en_slices_Sorted_string : qX Tryz.prog 154 := qE Tryz.func154 (by kernel_rfl) (by kernel_rfl)
theorem qcm : qX Tryz.prog 155 := qE Tryz.func155 (by kernel_rfl) (by kernel_rfl)
theorem qaZ : qX Tryz.prog 156 := qE Tryz.func156 (by kernel_rfl) (by kernel_rfl)
theorem qb8 : qX Tryz.prog 157 := qE Tryz.func157 (by kernel_rfl) (by kernel_rfl)
theorem en_almagestref1_Name : qX Tryz.prog 158 := qE Tryz.func158 (by kernel_rfl) (by kernel_rfl)
theorem qcO : qX Tryz.prog 159 := qE Tryz.func159 (by kernel_rfl) (by kernel_rfl)
theorem en_bind_Put : qX Tryz.prog 160 := qE Tryz.func160 (by kernel_rfl) (by kernel_rfl)
theorem qdc : qX Tryz.prog 161 := qE Tryz.func161 (by kernel_rfl) (by kernel_rfl)
theorem en_term_Is : qX Tryz.prog 164 := qE Tryz.func164 (by kernel_rfl) (by kernel_rfl)
theorem en_show_Guards_1 : qX Tryz.prog 165 := qE Tryz.func165 (by kernel_rfl) (by kernel_rfl)
theorem en_show_atom : qX Tryz.prog 166 := qE Tryz.func166 (by kernel_rfl) (by kernel_rfl)
theorem en_show_none : qX Tryz.prog 167 := qE Tryz.func167 (by kernel_rfl) (by kernel_rfl)
theorem qcb : qX Tryz.prog 168 := qE Tryz.func168 (by kernel_rfl) (by kernel_rfl)
theorem qca : qX Tryz.prog 169 := qE Tryz.func169 (by kernel_rfl) (by kernel_rfl)
theorem en_guard_behind : qX Tryz.prog 170 := qE Tryz.func170 (by kernel_rfl) (by kernel_rfl)
theorem en_guard_once : qX Tryz.prog 171 := qE Tryz.func171 (by kernel_rfl) (by kernel_rfl)
theorem en_known_Compare : qX Tryz.prog 172 := qE Tryz.func172 (by kernel_rfl) (by kernel_rfl)
theorem en_almagestref0_CopyGuards : qX Tryz.prog 173 := qE Tryz.func173 (by kernel_rfl) (by kernel_rfl)
theorem en_almagestref10_Atoms : qX Tryz.prog 174 := qE Tryz.func174 (by kernel_rfl) (by kernel_rfl)
theorem en_almagestref4_Guards : qX Tryz.prog 175 := qE Tryz.func175 (by kernel_rfl) (by kernel_rfl)
theorem en_almagestref10_Holds : qX Tryz.prog 176 := qE Tryz.func176 (by kernel_rfl) (by kernel_rfl)
theorem en_almagestref0_EqBindLists : qX Tryz.prog 177 := qE Tryz.func177 (by kernel_rfl) (by kernel_rfl)
theorem en_almagestref0_EqGuards : qX Tryz.prog 178 := qE Tryz.func178 (by kernel_rfl) (by kernel_rfl)
theorem en_cmp_Or_int : qX Tryz.prog 183 := qE Tryz.func183 (by kernel_rfl) (by kernel_rfl)
theorem qde : qX Tryz.prog 184 := qE Tryz.func184 (by kernel_rfl) (by kernel_rfl)
theorem en_term_Key : qX Tryz.prog 195 := qE Tryz.func195 (by kernel_rfl) (by kernel_rfl)
theorem qbz : qX Tryz.prog 197 := qE Tryz.func197 (by kernel_rfl) (by kernel_rfl)
theorem qcG : qX Tryz.prog 198 := qE Tryz.func198 (by kernel_rfl) (by kernel_rfl)
theorem en_almagestref1_text : qX Tryz.prog 199 := qE Tryz.func199 (by kernel_rfl) (by kernel_rfl)
theorem en_term_deep : qX Tryz.prog 200 := qE Tryz.func200 (by kernel_rfl) (by kernel_rfl)
theorem en_unify_Fit : qX Tryz.prog 201 := qE Tryz.func201 (by kernel_rfl) (by kernel_rfl)
theorem en_almagestref1_tail : qX Tryz.prog 202 := qE Tryz.func202 (by kernel_rfl) (by kernel_rfl)
theorem qa8 : qX Tryz.prog 203 := qE Tryz.func203 (by kernel_rfl) (by kernel_rfl)
theorem en_term_Inner : qX Tryz.prog 204 := qE Tryz.func204 (by kernel_rfl) (by kernel_rfl)
theorem en_term_Number : qX Tryz.prog 205 := qE Tryz.func205 (by kernel_rfl) (by kernel_rfl)
theorem en_term_may_1 : qX Tryz.prog 206 := qE Tryz.func206 (by kernel_rfl) (by kernel_rfl)
theorem en_term_Name : qX Tryz.prog 207 := qE Tryz.func207 (by kernel_rfl) (by kernel_rfl)
theorem qcl : qX Tryz.prog 208 := qE Tryz.func208 (by kernel_rfl) (by kernel_rfl)
theorem qdd : qX Tryz.prog 209 := qE Tryz.func209 (by kernel_rfl) (by kernel_rfl)
theorem en_bind_Put_1 : qX Tryz.prog 215 := qE Tryz.func215 (by kernel_rfl) (by kernel_rfl)
theorem qct : qX Tryz.prog 216 := qE Tryz.func216 (by kernel_rfl) (by kernel_rfl)
theorem en_guard_compared : qX Tryz.prog 217 := qE Tryz.func217 (by kernel_rfl) (by kernel_rfl)
theorem en_guard_key : qX Tryz.prog 218 := qE Tryz.func218 (by kernel_rfl) (by kernel_rfl)
theorem en_almagestref0_CopyGuard : qX Tryz.prog 219 := qE Tryz.func219 (by kernel_rfl) (by kernel_rfl)
theorem qbm : qX Tryz.prog 220 := qE Tryz.func220 (by kernel_rfl) (by kernel_rfl)
theorem en_almagestref4_Guard : qX Tryz.prog 221 := qE Tryz.func221 (by kernel_rfl) (by kernel_rfl)
theorem en_almagestref10_guarded : qX Tryz.prog 222 := qE Tryz.func222 (by kernel_rfl) (by kernel_rfl)
theorem en_almagestref10_among : qX Tryz.prog 223 := qE Tryz.func223 (by kernel_rfl) (by kernel_rfl)
theorem en_almagestref0_EqGuard : qX Tryz.prog 224 := qE Tryz.func224 (by kernel_rfl) (by kernel_rfl)
theorem en_cmp_isNaN_int : qX Tryz.prog 235 := qE Tryz.func235 (by kernel_rfl) (by kernel_rfl)
theorem en_unify_args : qX Tryz.prog 250 := qE Tryz.func250 (by kernel_rfl) (by kernel_rfl)
theorem en_term_small : qX Tryz.prog 251 := qE Tryz.func251 (by kernel_rfl) (by kernel_rfl)
theorem en_term_digit : qX Tryz.prog 252 := qE Tryz.func252 (by kernel_rfl) (by kernel_rfl)
theorem qcE : qX Tryz.prog 253 := qE Tryz.func253 (by kernel_rfl) (by kernel_rfl)
theorem en_almagestref1_Depth : qX Tryz.prog 258 := qE Tryz.func258 (by kernel_rfl) (by kernel_rfl)
theorem en_almagestref10_holds : qX Tryz.prog 259 := qE Tryz.func259 (by kernel_rfl) (by kernel_rfl)
theorem en_almagestref10_there : qX Tryz.prog 260 := qE Tryz.func260 (by kernel_rfl) (by kernel_rfl)
theorem en_almagestref10_Ask : qX Tryz.prog 261 := qE Tryz.func261 (by kernel_rfl) (by kernel_rfl)
theorem en_almagestref10_Compare : qX Tryz.prog 283 := qE Tryz.func283 (by kernel_rfl) (by kernel_rfl)
theorem en_almagestref1_Match : qX Tryz.prog 284 := qE Tryz.func284 (by kernel_rfl) (by kernel_rfl)
theorem qbd : Tryz.prog.follows .mixedOrders = true := by kernel_rfl
end Go.Proofs.YtdecgkhdbfgldaaGreat

set_option linter.unusedVariables false
set_option maxRecDepth 8000
namespace Go.Proofs.YtdecgkhdbfgldaaGreat
open Go Go.RowKit
theorem Tm.wfs_of : ∀ {l : List Tm}, (∀ t, t ∈ l → t.wf) → Tm.wfs l
  | [], _ => trivial
  | t :: l, h => ⟨(Tm.wf0_iff t).2 (h t (by simp)), Tm.wfs_of fun u hu => h u (by simp [hu])⟩
theorem rdr_tm (w : World) : ∀ n : Nat, Rdr Tryz.prog w n 35 4 tmD Tm.wf := by
  intro n
  induction n using Nat.strongRecOn with
  | _ n ih =>
    refine Rdr.map (fun x : Int × ByteArray × Int × List Tm × Unit => ⟨x.1, x.2.1, x.2.2.1, x.2.2.2.1⟩) (Rdr.struct st_api_Term (fun _ => rfl) fun m hm => RdrF.cons (Rdr.int ul_int) (RdrF.cons (Rdr.str qaY) (RdrF.cons (Rdr.int ul_int) (RdrF.cons (Rdr.slice qv (by decide) fun k hk => ih k (by omega)) RdrF.nil)))) tmD_length ?_ ?_
    · rintro ⟨a, b, c, l, _⟩ _
      simp only [tmD, qb3]; rfl
    · rintro ⟨a, b, c, l, _⟩ ⟨h1, h2, h3, ⟨h4, h5⟩, _⟩
      rw [by_api_Term] at h4
      exact ⟨h1, h2, h3, h4, Tm.wfs_of h5⟩
theorem lenOk_of {α : Type} {l : List α} {k : Nat} (h : l.length * k ≤ 140737488351232) (hk : 0 < k) : qbD l := Nat.le_trans (Nat.le_mul_of_pos_right _ hk) h
theorem rdr_tms (w : World) (n : Nat) : Rdr Tryz.prog w n 23 1 (fun l : List Tm => [.sl 4 (tmDs l)]) (fun l => qbD l ∧ Tm.wfs l) := by
  refine Rdr.map id (Rdr.slice qv (by decide) fun k _ => rdr_tm w k) (fun _ => rfl) ?_ ?_
  · intro l _; simp only [id, qb3]
  · rintro l ⟨h1, h2⟩
    rw [by_api_Term] at h1
    exact ⟨lenOk_of h1 (by decide), Tm.wfs_of h2⟩
theorem rdr_gd (w : World) (n : Nat) : Rdr Tryz.prog w n 111 9 gdD Gd.wf := by
  refine Rdr.map (fun x : Int × Tm × Tm × Unit => ⟨x.1, x.2.1, x.2.2.1⟩) (Rdr.struct st_api_Guard (fun _ => rfl) fun m hm => RdrF.cons (Rdr.int ul_int) (RdrF.cons (rdr_tm w m) (RdrF.cons (rdr_tm w m) RdrF.nil))) (fun _ => rfl) ?_ ?_
  · rintro ⟨a, b, c, _⟩ _; rfl
  · rintro ⟨a, b, c, _⟩ ⟨h1, h2, h3, _⟩; exact ⟨h1, h2, h3⟩
theorem rdr_gds (w : World) (n : Nat) : Rdr Tryz.prog w n 62 1 (fun l : List Gd => [.sl 9 (gdDs l)]) (fun l => qbD l ∧ ∀ g ∈ l, g.wf) := by
  refine Rdr.map id (Rdr.slice qac (by decide) fun k _ => rdr_gd w k) (fun _ => rfl) (fun _ _ => rfl) ?_
  rintro l ⟨h1, h2⟩
  rw [by_api_Guard] at h1
  exact ⟨lenOk_of h1 (by decide), h2⟩
theorem rdr_bd (w : World) (n : Nat) : Rdr Tryz.prog w n 40 5 bdD Bd.wf := by
  refine Rdr.map (fun x : ByteArray × Tm × Unit => ⟨x.1, x.2.1⟩) (Rdr.struct st_api_Bind (fun _ => rfl) fun m hm => RdrF.cons (Rdr.str qaY) (RdrF.cons (rdr_tm w m) RdrF.nil)) (fun _ => rfl) ?_ ?_
  · rintro ⟨a, b, _⟩ _; rfl
  · rintro ⟨a, b, _⟩ ⟨h1, h2, _⟩; exact ⟨h1, h2⟩
theorem rdr_bds (w : World) (n : Nat) : Rdr Tryz.prog w n 28 1 (fun l : List Bd => [.sl 5 (bdDs l)]) (fun l => qbD l ∧ ∀ g ∈ l, g.wf) := by
  refine Rdr.map id (Rdr.slice qp (by decide) fun k _ => rdr_bd w k) (fun _ => rfl) (fun _ _ => rfl) ?_
  rintro l ⟨h1, h2⟩
  rw [by_api_Bind] at h1
  exact ⟨lenOk_of h1 (by decide), h2⟩
theorem rdr_bdls (w : World) (n : Nat) : Rdr Tryz.prog w n 22 1 (fun l : List (List Bd) => [.sl 1 (qaM l)]) (fun l => qbD l ∧ ∀ b ∈ l, qbD b ∧ ∀ g ∈ b, g.wf) := by
  refine Rdr.map id (Rdr.slice qH (by decide) fun k _ => rdr_bds w k) (fun _ => rfl) (fun _ _ => rfl) ?_
  rintro l ⟨h1, h2⟩
  rw [by_S_api_Bind] at h1
  exact ⟨lenOk_of h1 (by decide), h2⟩
theorem rdr_cl (w : World) (n : Nat) : Rdr Tryz.prog w n 106 6 clD Cl.wf := by
  refine Rdr.map (fun x : Tm × List Tm × List Gd × Unit => ⟨x.1, x.2.1, x.2.2.1⟩) (Rdr.struct st_api_Clause (fun _ => rfl) fun m hm => RdrF.cons (rdr_tm w m) (RdrF.cons (rdr_tms w m) (RdrF.cons (rdr_gds w m) RdrF.nil))) (fun _ => rfl) ?_ ?_
  · rintro ⟨a, b, c, _⟩ _; rfl
  · rintro ⟨a, b, c, _⟩ ⟨h1, h2, h3, _⟩; exact ⟨h1, h2, h3⟩
theorem rdr_cls (w : World) (n : Nat) : Rdr Tryz.prog w n 59 1 (fun l : List Cl => [.sl 6 (clDs l)]) (fun l => qbD l ∧ ∀ g ∈ l, g.wf) := by
  refine Rdr.map id (Rdr.slice qbY (by decide) fun k _ => rdr_cl w k) (fun _ => rfl) (fun _ _ => rfl) ?_
  rintro l ⟨h1, h2⟩
  rw [by_api_Clause] at h1
  exact ⟨lenOk_of h1 (by decide), h2⟩
theorem rdr_a11 (w : World) (n : Nat) : Rdr Tryz.prog w n 61 3 a11D Ask11.wf := by
  refine Rdr.map (fun x : List Cl × List Tm × List Tm × Unit => ⟨x.1, x.2.1, x.2.2.1⟩) (Rdr.struct st_almagestlaw11_Ask (fun _ => rfl) fun m hm => RdrF.cons (rdr_cls w m) (RdrF.cons (rdr_tms w m) (RdrF.cons (rdr_tms w m) RdrF.nil))) (fun _ => rfl) ?_ ?_
  · rintro ⟨a, b, c, _⟩ _; rfl
  · rintro ⟨a, b, c, _⟩ ⟨h1, h2, h3, _⟩; exact ⟨h1, h2, h3⟩
theorem rdr_a12 (w : World) (n : Nat) : Rdr Tryz.prog w n 64 5 a12D Ask12.wf := by
  refine Rdr.map (fun x : Ask11 × List (List Bd) × List Gd × Unit => ⟨x.1, x.2.1, x.2.2.1⟩) (Rdr.struct qba (fun _ => rfl) fun m hm => RdrF.cons (rdr_a11 w m) (RdrF.cons (rdr_bdls w m) (RdrF.cons (rdr_gds w m) RdrF.nil))) (fun _ => rfl) ?_ ?_
  · rintro ⟨a, b, c, _⟩ _; rfl
  · rintro ⟨a, b, c, _⟩ ⟨h1, h2, h3, _⟩; exact ⟨h1, h2, h3⟩
end Go.Proofs.YtdecgkhdbfgldaaGreat

set_option linter.unusedVariables false
set_option linter.unusedSimpArgs false
namespace Go.Proofs.YtdecgkhdbfgldaaGreat
open Go
def wgtL {α : Type} (f : α → Int) : Int → List α → Int
  | n, [] => n
  | n, a :: l => if n < 1048576 then wgtL f (n + f a) l else n
def wgt : Nat → Tm → Int
  | 0, _ => 1048576
  | d + 1, t => wgtL (wgt d) (1 + t.name.size) t.args
theorem wgtL_ge {α : Type} (f : α → Int) (h : ∀ t, 0 ≤ f t) : ∀ (n : Int) (l : List α), 0 ≤ n → n ≤ wgtL f n l
  | n, [], h0 => by simp [wgtL]
  | n, a :: l, h0 => by
    simp only [wgtL]
    split
    · have := wgtL_ge f h (n + f a) l (by have := h a; omega)
      have := h a; omega
    · omega
theorem wgt_ge : ∀ (d : Nat) (t : Tm), 0 ≤ wgt d t
  | 0, _ => by simp [wgt]
  | d + 1, t => by
    simp only [wgt]
    have := wgtL_ge _ (wgt_ge d) (1 + t.name.size) t.args (by omega)
    omega
theorem wgtL_le {α : Type} (f : α → Int) (B : Int) (hB : 0 ≤ B) : ∀ (n : Int) (l : List α), (∀ t ∈ l, f t ≤ B) → n ≤ 140737488351233 + B → wgtL f n l ≤ 140737488351233 + B
  | n, [], _, h0 => h0
  | n, a :: l, h, h0 => by
    simp only [wgtL]
    split
    · exact wgtL_le f B hB _ l (fun t ht => h t (by simp [ht])) (by have := h a (by simp); omega)
    · exact h0
theorem wgt_le : ∀ (d : Nat) (t : Tm), t.wf → wgt d t ≤ 140737488351233 * (d + 1)
  | 0, t, _ => by simp [wgt]
  | d + 1, t, h => by
    simp only [wgt]
    have := wgtL_le (wgt d) (140737488351233 * (d + 1)) (by omega) (1 + t.name.size) t.args (fun u hu => by
      obtain ⟨i, hi⟩ := List.getElem?_of_mem hu
      exact wgt_le d u (Tm.wfs_get h.2.2.2.2 hi)) (by have := h.2.1; omega)
    push_cast at this ⊢
    omega
theorem wgtL_stop {α : Type} (f : α → Int) (n : Int) (l : List α) (h : ¬ n < 1048576) : wgtL f n l = n := by
  cases l with
  | nil => rfl
  | cons a l => simp [wgtL, h]
theorem wgtL_take {α : Type} (f : α → Int) (n : Int) (l : List α) (k : Nat) (hk : k ≤ l.length) (h : ∀ j, j < k → wgtL f n (l.take j) < 1048576) : wgtL f n l = wgtL f (wgtL f n (l.take k)) (l.drop k) := by
  induction k generalizing n l with
  | zero => simp [wgtL]
  | succ k ih =>
    cases l with
    | nil => simp at hk
    | cons a l =>
      have h0 : n < 1048576 := by have := h 0 (by omega); simpa [wgtL] using this
      simp only [List.take_succ_cons, List.drop_succ_cons, wgtL, if_pos h0]
      refine ih _ l (by simpa using hk) fun j hj => ?_
      have := h (j + 1) (by omega)
      simpa [wgtL, h0] using this
theorem wgtL_snoc {α : Type} (f : α → Int) (n : Int) (l : List α) (a : α) (h : ∀ j, j ≤ l.length → wgtL f n (l.take j) < 1048576) : wgtL f n (l ++ [a]) = wgtL f n l + f a := by
  have h1 := wgtL_take f n (l ++ [a]) l.length (by simp) (fun j hj => by
    have := h j (by omega)
    rwa [List.take_append_of_le_length (by omega)])
  have h2 := h l.length (Nat.le_refl _)
  simp only [List.take_length] at h2
  simp only [List.take_left, List.drop_left] at h1
  rw [h1]
  simp [wgtL, h2]
theorem qah {α : Type} {l : List α} {k : Nat} {a : α} (h : l[k]? = some a) : l.take (k + 1) = l.take k ++ [a] := by
  rw [List.take_add_one, h]; rfl
theorem qK {α : Type} {l : List α} {k : Nat} (h : k < l.length) : ∃ a, l[k]? = some a := ⟨l[k], by simp [h]⟩
set_option maxRecDepth 4000 in
theorem TermWeight_ok : ∀ (d : Nat), d ≤ 30 → ∀ (e : Int), e = d → ∀ t : Tm, t.wf → AC Tryz.prog 115 [tmA false t, .imm (.int .i64 e)] [] (fun r O => r = .imm (.int .i64 (wgt d t)) ∧ O = []) := by
  intro d
  induction d with
  | zero =>
    intro hd e he t ht
    have hnm := ht.2.1
    have hal := ht.2.2.2.1
    have hlen := qaa t.args
    refine qG Tryz.func115 rfl Tryz.ntmps115 (Nat.le_of_ble_eq_true rfl) fun c hL hQ hDD => (qd (qb (qz rfl rfl (by decide) (qab 2 rfl rfl rfl) rfl (zN rfl rfl rfl (qc (qa (qd ?_))))))); refine qb (zA rfl (qg rfl qad rfl) (zA rfl (qr rfl qT rfl rfl rfl rfl rfl) ?_))
    refine zA rfl (qb5 rfl qaY rfl) (zA rfl (qM rfl rfl rfl (by omega)) (zN rfl rfl rfl (qc (qa (qd (qd (qb ?_))))))); refine zM rfl rfl rfl (zA rfl (qn rfl rfl rfl rfl) (qc (qa (qu rfl (fun c0 => ?_) (fun c0 => ?_)))))
    · try simp only [↓cqA, cqB] at c0
      refine qd (qb (zN rfl rfl rfl (qc (qa (qm (ql (?_)))))))
      -- leaf 0T
      refine ret0 (noL hL) (.inl rfl) (qf rfl (qh)) ?_ ?_
      · rfl
      exact ⟨rfl, rfl⟩
    try simp only [↓cqA, cqB] at c0
    omega
  | succ d ih =>
    intro hd e he t ht
    have hnm := ht.2.1
    have hal := ht.2.2.2.1
    have hlen := qaa t.args
    refine qG Tryz.func115 rfl Tryz.ntmps115 (Nat.le_of_ble_eq_true rfl) fun c hL hQ hDD => (qd (qb (qz rfl rfl (by decide) (qab 2 rfl rfl rfl) rfl (zN rfl rfl rfl (qc (qa (qd ?_))))))); refine qb (zA rfl (qg rfl qad rfl) (zA rfl (qr rfl qT rfl rfl rfl rfl rfl) ?_))
    refine zA rfl (qb5 rfl qaY rfl) (zA rfl (qM rfl rfl rfl (by omega)) (zN rfl rfl rfl (qc (qa (qd (qd (qb ?_))))))); refine zM rfl rfl rfl (zA rfl (qn rfl rfl rfl rfl) (qc (qa (qu rfl (fun c0 => ?_) (fun c0 => ?_)))))
    · try simp only [↓cqA, cqB] at c0
      omega
    try simp only [↓cqA, cqB] at c0
    refine qt (qa (qd (qd (qb (zN rfl rfl rfl (qc (qa ?_))))))); refine qB ?_
    refine qV (t.args.length) (fun k => k ≤ t.args.length ∧ ∀ j, j < k → wgtL (wgt d) (1 + t.name.size) (t.args.take j) < 1048576) (fun k => ⟨[(1, .imm (.int .i64 e)), (2, .ptr 2 0), (5, .imm (.int .i64 (wgtL (wgt d) (1 + t.name.size) (t.args.take k)))), (6, .imm (.int .i64 (k : Int)))], [(2, .box (lift false (tmD t)))]⟩) (⟨by omega, fun j hj => absurd hj (by omega)⟩) ?_ (fun k hk hp => ?_)
    · exact qI (SubT.cons (zT rfl) (SubT.cons (zT rfl) (SubT.cons (qbg rfl (by simp [wgtL])) (SubT.cons (zT rfl) (SubT.nil))))) (SubO.cons (qag rfl (by rfl)) (SubO.nil)) rfl rfl (noL' (noL hL) _)
    have hw : wgtL (wgt d) (1 + t.name.size) (t.args.take k) ≤ 140737488351233 + 140737488351233 * (d + 1) := wgtL_le (wgt d) _ (by omega) _ _ (fun u hu => wgt_le d u (by
      obtain ⟨i, hi⟩ := List.getElem?_of_mem (List.mem_of_mem_take hu)
      exact Tm.wfs_get ht.2.2.2.2 hi)) (by omega)
    have hw0 := wgtL_ge (wgt d) (wgt_ge d) (1 + t.name.size) (t.args.take k) (by omega)
    refine qd (qd (qb (zM rfl rfl rfl (zA rfl (qg rfl qJ rfl) (zA rfl (qr rfl qF rfl rfl rfl rfl rfl) (zA rfl (qy rfl qv rfl) (zA rfl (qn rfl rfl rfl rfl) ?_))))))); refine zM rfl rfl rfl (qA 18 rfl (fun g18 => ?_) (fun g18 => ?_))
    · try simp only [↓cqA, cqB] at g18
      obtain ⟨u, hu⟩ := qK (l := t.args) (k := k) (by omega)
      have huw := wgt_le d u (Tm.wfs_get ht.2.2.2.2 hu)
      have huw0 := wgt_ge d u
      refine zG rfl rfl rfl rfl (qk (.inl rfl) rfl) (zG rfl rfl rfl rfl (qn rfl rfl rfl rfl) (zA rfl (qj rfl rfl rfl) (qc (qa (qu rfl (fun c1 => ?_) (fun c1 => ?_))))))
      · try simp only [↓cqA, cqB] at c1
        refine qt (qa (qd (qB (qb (zM rfl rfl rfl (zA rfl (qg rfl qJ rfl) (zA rfl (qr rfl qF rfl rfl rfl rfl rfl) ?_))))))); refine zM rfl rfl rfl (zA rfl (qo rfl qv rfl rfl (by omega) (qax hu)) ?_)
        refine zA rfl (qD rfl qi rfl rfl) (zM rfl rfl rfl (zA rfl (stp_sub rfl rfl rfl (by omega)) (qC (avs := [_, _]) true rfl rfl rfl (by decide) qaV rfl rfl (ih (by omega) _ (by omega) u (Tm.wfs_get ht.2.2.2.2 hu)) rfl rfl (zA rfl (qM rfl rfl rfl (by omega)) ?_))))
        refine zN rfl rfl rfl (qc (qP (qa (qb (zM rfl rfl rfl (zA rfl (qM rfl rfl rfl (by omega)) (zN rfl rfl rfl ?_))))))); refine qc ?_
        have hb := wgtL_snoc (wgt d) (1 + t.name.size) (t.args.take k) u (fun j hj => by
          by_cases hjk : j < k
          · have := hp.2 j hjk; rwa [List.take_take, Nat.min_eq_left (by omega)]
          · rw [List.take_of_length_le (by simp; omega)]; omega)
        rw [← qah hu] at hb
        refine qa ?_; refine ⟨?_, ?_, ?_⟩
        · skip
          omega
        · skip
          refine ⟨by omega, fun j hj => ?_⟩
          by_cases hjk : j < k
          · exact hp.2 j hjk
          · rw [show j = k by omega]; omega
        exact qI (SubT.cons (zT rfl) (SubT.cons (zT rfl) (SubT.cons (qbg rfl (by exact qb6 hb.symm)) (SubT.cons (zT rfl) (SubT.nil))))) (SubO.cons (qag rfl (by rfl)) (SubO.nil)) rfl rfl (noL' (noL hL) _)
      try simp only [↓cqA, cqB] at c1
      refine qQ (qq (qq (q7 ?_))); refine qa (qd (qb (zM rfl rfl rfl (zN rfl rfl rfl (qc (qa (qm ?_)))))))
      -- leaf 0Fg18T1F
      refine ret0 (noL hL) (.inl rfl) (qf rfl (qh)) ?_ ?_
      · rfl
      refine ⟨qbr ?_, rfl⟩
      rw [wgt]; exact ((wgtL_take (wgt d) _ _ k hp.1 hp.2).trans (wgtL_stop _ _ _ (by omega))).symm
    try simp only [↓cqA, cqB] at g18
    refine zS rfl rfl rfl rfl (zS rfl rfl rfl rfl (zA rfl (qj rfl rfl rfl) (qc (qa (qas rfl (qQ (qq (qq (q7 ?_))))))))); refine qa (qd (qb (zM rfl rfl rfl (zN rfl rfl rfl (qc (qa (qm ?_)))))))
    -- leaf 0Fg18F
    refine ret0 (noL hL) (.inl rfl) (qf rfl (qh)) ?_ ?_
    · rfl
    refine ⟨qbr ?_, rfl⟩
    rw [wgt, List.take_of_length_le (by omega)]
end Go.Proofs.YtdecgkhdbfgldaaGreat

set_option linter.unusedVariables false
set_option linter.unusedSimpArgs false
set_option maxRecDepth 8000
namespace Go.Proofs.YtdecgkhdbfgldaaGreat
open Go
abbrev PF (f : FuncId) (args : List AV) (v : AV) : Prop := AC Tryz.prog f args [] (fun r O => r = v ∧ O = [])
abbrev PFm (f : FuncId) (args : List AV) (v : AV) : Prop := ACx true Tryz.prog f args [] (fun r O => r = v ∧ O = [])
abbrev bv (b : Bool) : AV := .imm (.bool b)
abbrev iv (n : Int) : AV := .imm (.int .i64 n)
abbrev uv (n : Int) : AV := .imm (.int .u8 n)
abbrev sv (s : ByteArray) : AV := .imm (.string s)
def digB (x : Int) : Bool := decide (48 ≤ x ∧ x ≤ 57)
def qbR (x : Int) : Bool := decide (97 ≤ x ∧ x ≤ 122)
def qbS (x : Int) : Bool := decide (65 ≤ x ∧ x ≤ 90)
def qa7 (x : Int) : Bool := qbR x || qbS x || digB x || decide (x = 95)
def numB (x : Int) : Bool := decide (-1073741824 ≤ x ∧ x ≤ 1073741824)
theorem digit_ok (x : Int) : PF 252 [uv x] (bv (digB x)) := by
  refine qG Tryz.func252 rfl Tryz.ntmps252 (Nat.le_of_ble_eq_true rfl) fun c hL hQ hDD => (qd (qb (zN rfl rfl rfl (qc (qa (qd (qb ?_))))))); refine zM rfl rfl rfl (zA rfl (qn rfl rfl rfl rfl) (zM rfl rfl rfl (qA 5 rfl (fun g5 => ?_) (fun g5 => ?_))))
  · try simp only [↓cqA, cqB] at g5
    refine zG rfl rfl rfl rfl (qk (.inl rfl) rfl) (zG rfl rfl rfl rfl (qn rfl rfl rfl rfl) (zA rfl (qj rfl rfl rfl) (zN rfl rfl rfl (qc (qa (qm ?_))))))
    -- leaf g5T
    refine ret0 (noL hL) (.inl rfl) (qf rfl (qh)) ?_ ?_
    · rfl
    refine ⟨qW ?_, rfl⟩
    rw [Bool.eq_iff_iff]; simp [digB]; try omega
  try simp only [↓cqA, cqB] at g5
  refine zS rfl rfl rfl rfl (zS rfl rfl rfl rfl (zA rfl (qj rfl rfl rfl) (zN rfl rfl rfl (qc (qa (qm ?_))))))
  -- leaf g5F
  refine ret0 (noL hL) (.inl rfl) (qf rfl (qh)) ?_ ?_
  · rfl
  refine ⟨qW ?_, rfl⟩
  rw [Bool.eq_iff_iff]; simp [digB]; try omega
theorem small_ok (x : Int) : PF 251 [uv x] (bv (qbR x)) := by
  refine qG Tryz.func251 rfl Tryz.ntmps251 (Nat.le_of_ble_eq_true rfl) fun c hL hQ hDD => (qd (qb (zN rfl rfl rfl (qc (qa (qd (qb ?_))))))); refine zM rfl rfl rfl (zA rfl (qn rfl rfl rfl rfl) (zM rfl rfl rfl (qA 5 rfl (fun g5 => ?_) (fun g5 => ?_))))
  · try simp only [↓cqA, cqB] at g5
    refine zG rfl rfl rfl rfl (qk (.inl rfl) rfl) (zG rfl rfl rfl rfl (qn rfl rfl rfl rfl) (zA rfl (qj rfl rfl rfl) (zN rfl rfl rfl (qc (qa (qm ?_))))))
    -- leaf g5T
    refine ret0 (noL hL) (.inl rfl) (qf rfl (qh)) ?_ ?_
    · rfl
    refine ⟨qW ?_, rfl⟩
    rw [Bool.eq_iff_iff]; simp [qbR]; try omega
  try simp only [↓cqA, cqB] at g5
  refine zS rfl rfl rfl rfl (zS rfl rfl rfl rfl (zA rfl (qj rfl rfl rfl) (zN rfl rfl rfl (qc (qa (qm ?_))))))
  -- leaf g5F
  refine ret0 (noL hL) (.inl rfl) (qf rfl (qh)) ?_ ?_
  · rfl
  refine ⟨qW ?_, rfl⟩
  rw [Bool.eq_iff_iff]; simp [qbR]; try omega
theorem great_ok (x : Int) : PF 147 [uv x] (bv (qbS x)) := by
  refine qG Tryz.func147 rfl Tryz.ntmps147 (Nat.le_of_ble_eq_true rfl) fun c hL hQ hDD => (qd (qb (zN rfl rfl rfl (qc (qa (qd (qb ?_))))))); refine zM rfl rfl rfl (zA rfl (qn rfl rfl rfl rfl) (zM rfl rfl rfl (qA 5 rfl (fun g5 => ?_) (fun g5 => ?_))))
  · try simp only [↓cqA, cqB] at g5
    refine zG rfl rfl rfl rfl (qk (.inl rfl) rfl) (zG rfl rfl rfl rfl (qn rfl rfl rfl rfl) (zA rfl (qj rfl rfl rfl) (zN rfl rfl rfl (qc (qa (qm ?_))))))
    -- leaf g5T
    refine ret0 (noL hL) (.inl rfl) (qf rfl (qh)) ?_ ?_
    · rfl
    refine ⟨qW ?_, rfl⟩
    rw [Bool.eq_iff_iff]; simp [qbS]; try omega
  try simp only [↓cqA, cqB] at g5
  refine zS rfl rfl rfl rfl (zS rfl rfl rfl rfl (zA rfl (qj rfl rfl rfl) (zN rfl rfl rfl (qc (qa (qm ?_))))))
  -- leaf g5F
  refine ret0 (noL hL) (.inl rfl) (qf rfl (qh)) ?_ ?_
  · rfl
  refine ⟨qW ?_, rfl⟩
  rw [Bool.eq_iff_iff]; simp [qbS]; try omega
theorem Number_ok (x : Int) : PF 205 [iv x] (bv (numB x)) := by
  refine qG Tryz.func205 rfl Tryz.ntmps205 (Nat.le_of_ble_eq_true rfl) fun c hL hQ hDD => (qd (qb (zN rfl rfl rfl (qc (qa (qd (qb ?_))))))); refine zM rfl rfl rfl (zA rfl (qn rfl rfl rfl rfl) (zM rfl rfl rfl (qA 5 rfl (fun g5 => ?_) (fun g5 => ?_))))
  · try simp only [↓cqA, cqB] at g5
    refine zG rfl rfl rfl rfl (qk (.inl rfl) rfl) (zG rfl rfl rfl rfl (qn rfl rfl rfl rfl) (zA rfl (qj rfl rfl rfl) (zN rfl rfl rfl (qc (qa (qm ?_))))))
    -- leaf g5T
    refine ret0 (noL hL) (.inl rfl) (qf rfl (qh)) ?_ ?_
    · rfl
    refine ⟨qW ?_, rfl⟩
    rw [Bool.eq_iff_iff]; simp [numB]; try omega
  try simp only [↓cqA, cqB] at g5
  refine zS rfl rfl rfl rfl (zS rfl rfl rfl rfl (zA rfl (qj rfl rfl rfl) (zN rfl rfl rfl (qc (qa (qm ?_))))))
  -- leaf g5F
  refine ret0 (noL hL) (.inl rfl) (qf rfl (qh)) ?_ ?_
  · rfl
  refine ⟨qW ?_, rfl⟩
  rw [Bool.eq_iff_iff]; simp [numB]; try omega
theorem Inner_ok (x : Int) : PF 204 [uv x] (bv (qa7 x)) := by
  refine qG Tryz.func204 rfl Tryz.ntmps204 (Nat.le_of_ble_eq_true rfl) fun c hL hQ hDD => (qd (qb (zN rfl rfl rfl (qc (qa (qd (qb ?_))))))); refine zM rfl rfl rfl (qC (avs := [_]) true rfl rfl rfl (by decide) en_term_small rfl rfl (small_ok _) rfl rfl (zM rfl rfl rfl (qA 5 rfl (fun g5 => ?_) (fun g5 => ?_))))
  · try simp only [↓cqA, cqB] at g5
    refine zS rfl rfl rfl rfl (zS rfl rfl rfl rfl (zA rfl (qj rfl rfl rfl) (zM rfl rfl rfl (zS rfl rfl rfl rfl (zS rfl rfl rfl rfl ?_)))))
    refine zA rfl (qj rfl rfl rfl) (zM rfl rfl rfl (zS rfl rfl rfl rfl (zS rfl rfl rfl rfl (zA rfl (qj rfl rfl rfl) (zN rfl rfl rfl (qc (qa ?_))))))); refine qm ?_
    -- leaf g5T
    refine ret0 (noL hL) (.inl rfl) (qf rfl (qh)) ?_ ?_
    · rfl
    refine ⟨qW ?_, rfl⟩
    simp_all [qa7]; try rfl
  try simp only [↓cqA, cqB] at g5
  refine zG rfl rfl rfl rfl (qk (.inl rfl) rfl) (zG rfl rfl rfl rfl (qN (avs := [_]) true rfl en_term_great rfl rfl (great_ok _) (fun _ => rfl) rfl) (zA rfl (qj rfl rfl rfl) (zM rfl rfl rfl (qA 9 rfl (fun g9 => ?_) (fun g9 => ?_)))))
  · try simp only [↓cqA, cqB] at g9
    refine zS rfl rfl rfl rfl (zS rfl rfl rfl rfl (zA rfl (qj rfl rfl rfl) (zM rfl rfl rfl (zS rfl rfl rfl rfl (zS rfl rfl rfl rfl (zA rfl (qj rfl rfl rfl) (zN rfl rfl rfl ?_))))))); refine qc (qa (qm ?_))
    -- leaf g5Fg9T
    refine ret0 (noL hL) (.inl rfl) (qf rfl (qh)) ?_ ?_
    · rfl
    refine ⟨qW ?_, rfl⟩
    simp_all [qa7]; try rfl
  try simp only [↓cqA, cqB] at g9
  refine zG rfl rfl rfl rfl (qk (.inl rfl) rfl) (zG rfl rfl rfl rfl (qN (avs := [_]) true rfl en_term_digit rfl rfl (digit_ok _) (fun _ => rfl) rfl) (zA rfl (qj rfl rfl rfl) (zM rfl rfl rfl (qA 13 rfl (fun g13 => ?_) (fun g13 => ?_)))))
  · try simp only [↓cqA, cqB] at g13
    refine zS rfl rfl rfl rfl (zS rfl rfl rfl rfl (zA rfl (qj rfl rfl rfl) (zN rfl rfl rfl (qc (qa (qm ?_))))))
    -- leaf g5Fg9Fg13T
    refine ret0 (noL hL) (.inl rfl) (qf rfl (qh)) ?_ ?_
    · rfl
    refine ⟨qW ?_, rfl⟩
    simp_all [qa7]; try rfl
  try simp only [↓cqA, cqB] at g13
  refine zG rfl rfl rfl rfl (qk (.inl rfl) rfl) (zG rfl rfl rfl rfl (qn rfl rfl rfl rfl) (zA rfl (qj rfl rfl rfl) (zN rfl rfl rfl (qc (qa (qm ?_))))))
  -- leaf g5Fg9Fg13F
  refine ret0 (noL hL) (.inl rfl) (qf rfl (qh)) ?_ ?_
  · rfl
  refine ⟨qW ?_, rfl⟩
  simp_all [qa7]; try rfl
def wordB (p : Int → Bool) (s : ByteArray) : Bool := decide (s.size ≠ 0) && decide (s.size ≤ 16) && p (qb1 s 0) && (List.range s.size).all (fun i => qa7 (qb1 s i))
def nameB (s : ByteArray) : Bool := wordB qbR s
def varB (s : ByteArray) : Bool := wordB qbS s
theorem word_ok (s : ByteArray) (p : Int → Bool) (g : FuncId) (hen : qX Tryz.prog g) (hg : ∀ x, PF g [uv x] (bv (p x))) : PF 146 [sv s, .fn g []] (bv (wordB p s)) := by
  refine qG Tryz.func146 rfl Tryz.ntmps146 (Nat.le_of_ble_eq_true rfl) fun c hL hQ hDD => (qd (qb (zN rfl rfl rfl (qc (qa (qd (qd ?_))))))); refine qb (zM rfl rfl rfl (zA rfl (qbn rfl rfl rfl rfl) (zM rfl rfl rfl (qA 8 rfl (fun g8 => ?_) (fun g8 => ?_)))))
  · try simp only [↓cqA, cqB] at g8
    refine zS rfl rfl rfl rfl (zS rfl rfl rfl rfl (zS rfl rfl rfl rfl (zA rfl (qj rfl rfl rfl) (zM rfl rfl rfl (zS rfl rfl rfl rfl ?_)))))
    refine zS rfl rfl rfl rfl (zS rfl rfl rfl rfl (zS rfl rfl rfl rfl (zS rfl rfl rfl rfl (zA rfl (qj rfl rfl rfl) (qc (qa (qaj rfl ?_))))))); refine qd (qb (zN rfl rfl rfl (qc (qa (qm (ql (?_)))))))
    -- leaf g8T
    refine ret0 (noL hL) (.inl rfl) (qf rfl (qh)) ?_ ?_
    · rfl
    refine ⟨qW ?_, rfl⟩
    simp [wordB, size_zero.2 g8]
  try simp only [↓cqA, cqB] at g8
  have h0 : s.size ≠ 0 := mt size_zero.1 g8
  refine zG rfl rfl rfl rfl (qk (.inl rfl) rfl) (zG rfl rfl rfl rfl (qb5 rfl qaY rfl) (zG rfl rfl rfl rfl (qn rfl rfl rfl rfl) (zA rfl (qj rfl rfl rfl) (zM rfl rfl rfl (qA 13 rfl (fun g13 => ?_) (fun g13 => ?_))))))
  · try simp only [↓cqA, cqB] at g13
    refine zS rfl rfl rfl rfl (zS rfl rfl rfl rfl (zS rfl rfl rfl rfl (zS rfl rfl rfl rfl (zS rfl rfl rfl rfl (zA rfl (qj rfl rfl rfl) ?_)))))
    refine qc (qa (qaj rfl (qd (qb (zN rfl rfl rfl (qc (qa ?_))))))); refine qm (ql (?_))
    -- leaf g8Fg13T
    refine ret0 (noL hL) (.inl rfl) (qf rfl (qh)) ?_ ?_
    · rfl
    refine ⟨qW ?_, rfl⟩
    simp [wordB]; omega
  try simp only [↓cqA, cqB] at g13
  refine zG rfl rfl rfl rfl (qk (.inl rfl) rfl) (zG rfl rfl rfl rfl (qk (.inl rfl) rfl) (zG rfl rfl rfl rfl (qc4 rfl qaY rfl rfl (by decide) (by omega)) ?_))
  refine zG rfl rfl rfl rfl (qN (avs := [_]) true rfl hen rfl rfl (hg _) (fun _ => rfl) rfl) (zG rfl rfl rfl rfl (qU rfl rfl) (zA rfl (qj rfl rfl rfl) (qc (qa (qu rfl (fun c0 => ?_) (fun c0 => ?_))))))
  · try simp only [↓cqA, cqB] at c0
    refine qd (qb (zN rfl rfl rfl (qc (qa (qm (ql (?_)))))))
    -- leaf g8Fg13F0T
    refine ret0 (noL hL) (.inl rfl) (qf rfl (qh)) ?_ ?_
    · rfl
    refine ⟨qW ?_, rfl⟩
    simp [wordB, c0]
  try simp only [↓cqA, cqB] at c0
  refine qt (qa (qd (qd (qb (zM rfl rfl rfl (zA rfl (qb5 rfl qaY rfl) (zM rfl rfl rfl ?_))))))); refine qc (qa (qB ?_))
  refine qV (s.size) (fun k => k ≤ s.size ∧ ∀ j, j < k → qa7 (qb1 s j) = true) (fun k => ⟨[(0, .imm (.string s)), (21, iv s.size), (22, iv (k : Int))], []⟩) (⟨by omega, fun j hj => absurd hj (by omega)⟩) ?_ (fun k hk hp => ?_)
  · exact qI (SubT.cons (zT rfl) (SubT.cons (zT rfl) (SubT.cons (zT rfl) (SubT.nil)))) (SubO.nil) rfl rfl (noL' (noL hL) _)
  refine qd (qb (zA rfl (qn rfl rfl rfl rfl) (qc (qa (qd (qu rfl (fun c1 => ?_) (fun c1 => ?_)))))))
  · try simp only [↓cqA, cqB] at c1
    refine qt (qa (qd (qB (qd (qb (zM rfl rfl rfl (zN rfl rfl rfl ?_))))))); refine qc (qa (qd (qb ?_)))
    refine zM rfl rfl rfl (zM rfl rfl rfl (zA rfl (qc4 rfl qaY rfl rfl (by omega) (by omega)) (qC (avs := [_]) true rfl rfl rfl (by decide) en_term_Inner rfl rfl (Inner_ok _) rfl rfl (zA rfl (qU rfl rfl) (qc (qa (qu rfl (fun c2 => ?_) (fun c2 => ?_))))))))
    · try simp only [↓cqA, cqB] at c2
      refine qd (qb (zN rfl rfl rfl (qc (qa (qm (qL (ql (ql (qL (ql (?_)))))))))))
      -- leaf g8Fg13F0F1T2T
      refine ret0 (noL hL) (.inl rfl) (qf rfl (qh)) ?_ ?_
      · rfl
      refine ⟨qW ?_, rfl⟩
      symm; simp only [wordB, Bool.and_eq_false_iff]; right
      rw [List.all_eq_false]; exact ⟨k, by simp; omega, by simp [c2]⟩
    try simp only [↓cqA, cqB] at c2
    refine qt (qP (qa (qb (zA rfl (qM rfl rfl rfl (by omega)) (zM rfl rfl rfl (qc (qa ?_))))))); refine ⟨?_, ?_, ?_⟩
    · skip
      omega
    · skip
      refine ⟨by omega, fun j hj => ?_⟩
      by_cases hjk : j < k
      · exact hp.2 j hjk
      · rw [show j = k by omega]; exact c2
    exact qI (SubT.cons (zT rfl) (SubT.cons (zT rfl) (SubT.cons (zT rfl) (SubT.nil)))) (SubO.nil) rfl rfl (noL' (noL hL) _)
  try simp only [↓cqA, cqB] at c1
  refine qQ (qq (qq (q7 ?_))); refine qa (qd (qb (zN rfl rfl rfl (qc (qa (qm ?_))))))
  -- leaf g8Fg13F0F1F
  refine ret0 (noL hL) (.inl rfl) (qf rfl (qh)) ?_ ?_
  · rfl
  refine ⟨qW ?_, rfl⟩
  symm; simp only [wordB, Bool.and_eq_true, decide_eq_true_eq, List.all_eq_true, List.mem_range]
  exact ⟨⟨⟨h0, by omega⟩, c0⟩, fun j hj => hp.2 j (by omega)⟩
theorem Name_ok (s : ByteArray) : PF 207 [sv s] (bv (nameB s)) := by
  refine qG Tryz.func207 rfl Tryz.ntmps207 (Nat.le_of_ble_eq_true rfl) fun c hL hQ hDD => (qd (qb (zN rfl rfl rfl (qc (qa (qd (qb ?_))))))); refine zM rfl rfl rfl ?_
  refine qC (avs := [_, _]) true rfl rfl rfl (by decide) en_term_word rfl rfl (word_ok s qbR _ en_term_small small_ok) rfl rfl (zN rfl rfl rfl (qc (qa (qm ?_))))
  -- leaf 
  refine ret0 (noL hL) (.inl rfl) (qf rfl (qh)) ?_ ?_
  · rfl
  exact ⟨rfl, rfl⟩
theorem Var_ok (s : ByteArray) : PF 87 [sv s] (bv (varB s)) := by
  refine qG Tryz.func87 rfl Tryz.ntmps87 (Nat.le_of_ble_eq_true rfl) fun c hL hQ hDD => (qd (qb (zN rfl rfl rfl (qc (qa (qd (qb ?_))))))); refine zM rfl rfl rfl ?_
  refine qC (avs := [_, _]) true rfl rfl rfl (by decide) en_term_word rfl rfl (word_ok s qbS _ en_term_great great_ok) rfl rfl (zN rfl rfl rfl (qc (qa (qm ?_))))
  -- leaf 
  refine ret0 (noL hL) (.inl rfl) (qf rfl (qh)) ?_ ?_
  · rfl
  exact ⟨rfl, rfl⟩
end Go.Proofs.YtdecgkhdbfgldaaGreat

set_option linter.unusedVariables false
set_option maxRecDepth 8000
namespace Go.Proofs.YtdecgkhdbfgldaaGreat
open Go Go.RowKit
theorem top_calls {f : FuncId} {ds : List D} {w : World} {cs : Array Value} (h : PF f [.agg (lift false ds)] (bv true)) (hr : qcI w (Here w) ds cs.toList) : Calls Tryz.prog f #[.agg cs] w fun e w' => e = .returned (.bool true) ∧ Below w.heap.size w w' := by
  let c : Ctx := ⟨w, fun _ => False, Here w, fun _ => undef, fun _ => False, fun _ => False, False, fun _ => False⟩
  let S : Bool → Nat → Prop := fun f b => f = false ∧ b < w.heap.size
  have e0 : (fun b => S false b) = Here w := funext fun b => propext ⟨fun h => h.2, fun h => ⟨rfl, h⟩⟩
  have e1 : S false = Here w := e0
  obtain ⟨h1, h2⟩ := qcI.rep (w := w) (ρ := fun _ => undef) (S := S) (U := St.U ⟨argT 0 [.agg (lift false ds)], []⟩) (ds := ds) (vs := cs.toList) (by rw [e1]; exact hr)
  have hrep : Rep w (fun _ => undef) S (St.U ⟨argT 0 [.agg (lift false ds)], []⟩) (.agg (lift false ds)) (.agg cs) := by
    simp only [Rep]
    exact ⟨cs.toList, by simp, h2, h1⟩
  have hc : Conc c 1 ⟨argT 0 [.agg (lift false ds)], []⟩ ⟨#[.agg cs], []⟩ w (fun _ => undef) S := by
    refine ⟨rfl, rfl, fun t v ht => ?_, fun l o hl => (by simp [ok] at hl), fun l l' o o' b hl => (by simp [ok] at hl), fun l o b f hl => (by simp [ok] at hl), fun l o b hl => (by simp [ok] at hl), fun l o b hl => (by simp [ok] at hl), fun b hb => (by cases hb.1.1), fun f b hb => hb.2, fun b hb => (by cases hb.1), fun b hb => .inl hb.2, fun l hl => hl.elim, Fm.start (c := c) (fun _ h => h.elim) (fun _ h => h.elim) (fun b h => (by cases h.1))⟩
    simp only [argT, qbG] at ht
    split at ht
    · rename_i e; subst e; simp only [Option.some.injEq] at ht; subst ht; exact hrep
    · simp [lk] at ht
  refine (h c w [.agg cs] (fun _ => undef) S rfl (fun l => ⟨fun h => h.elim, fun h => by simp [inD, ok] at h⟩) ⟨fun b hb => (by cases hb.1), fun b h => h⟩ ⟨⟨fun h => h.elim⟩⟩ hc).mono ?_
  rintro e w' ⟨v, r, O', rfl, ⟨rfl, rfl⟩, ρ', S', hc'⟩
  have hv := hc'.T 0 _ rfl
  simp only [Rep] at hv
  have hv' : v = .bool true := by simpa using hv
  subst hv'
  have hf := hc'.fm
  exact ⟨rfl, hf.os, hf.tape, hf.output, hf.size, fun b hb => hf.block b hb (fun h => h)⟩
theorem own : ownKnob Tryz.prog.godebug = none := by kernel_rfl
theorem and2 {a b : Bool} (h : a = true) (k : b = true) : (a && b) = true := by rw [h, k]; rfl
theorem laidOut : laidOutB Tryz.prog = true := by kernel_rfl
theorem qcW : mapsRowed Tryz.prog = true := by kernel_rfl
theorem qcB : Tryz.prog.stopsHeard = true := by kernel_rfl
theorem mayEnter_ok : Tryz.prog.mayEnter = true := by kernel_rfl
end Go.Proofs.YtdecgkhdbfgldaaGreat

set_option linter.unusedVariables false
set_option linter.unusedSimpArgs false
set_option maxRecDepth 8000
namespace Go.Proofs.YtdecgkhdbfgldaaGreat
open Go
structure Thread (B : Bool) (caps : List AV) (Os : Nat → List (Nat × Ob)) : Prop where
  dom : ∀ k l, inD (Os k) l = inD (Os 0) l
  pass : ∀ k, PassO B (Os k) (Os k)
  cvs : ∀ k, AV.cvs B (Os k) (inD (Os k)) caps = caps
  cvs0 : ∀ k, AV.cvs B (Os k) (inD (Os k)) caps = caps
  all : ∀ k, AV.allLs (inD (Os k)) caps = true
  self : ∀ k, allO (inD (Os k)) (Os k) = true
  q : B = true → ∀ k, allOQ (fun f => f) (Os k) = true
theorem Thread.nil (B : Bool) (caps : List AV) (h : AV.cvs B [] (inD []) caps = caps) (k : AV.allLs (inD []) caps = true) : Thread B caps (fun _ => []) where
  dom _ _ := rfl
  pass _ := PassO.nil
  cvs _ := h
  cvs0 _ := h
  all _ := k
  self _ := rfl
  q _ _ := rfl
theorem IndexFunc_tm_ok (B : Bool) (ts : List Tm) (es : List (List D)) (hes : es = ts.map tmD) (hlen : ts.length ≤ 140737488351232) (g : FuncId) (caps : List AV) (hen : qX Tryz.prog g) (Os : Nat → List (Nat × Ob)) (p : Nat → Bool) (hO : Thread B caps Os)
    (hstep : ∀ k u, ts[k]? = some u → (∀ j, j < k → p j = false) → AC Tryz.prog g (tmA false u :: caps) (Os k) (fun r O => r = bv (p k) ∧ O = Os (k + 1))) :
    AC Tryz.prog 253 [.dat false 4 es, .fn g caps] (Os 0) (fun r O => ∃ m n i, m ≤ ts.length ∧ (∀ j, j < m → p j = false) ∧ ((m < ts.length ∧ p m = true ∧ i = (m : Int) ∧ n = m + 1) ∨ (m = ts.length ∧ i = -1 ∧ n = m)) ∧ r = iv i ∧ O = Os n) := by
  have hl : es.length = ts.length := by rw [hes, List.length_map]
  refine qG Tryz.func253 rfl Tryz.ntmps253 (Nat.le_of_ble_eq_true rfl) fun c hL hQ hDD => (qd (qb (zN rfl rfl rfl (qc (qa (qd (qd ?_))))))); refine qb (zM rfl rfl rfl (zA rfl (qy rfl qv rfl) ?_))
  refine zM rfl rfl rfl (qc (qa (qB (qV (ts.length) (fun k => k ≤ ts.length ∧ ∀ j, j < k → p j = false) (fun k => ⟨[(0, .dat false 4 es), (1, .fn g caps), (7, iv es.length), (8, iv (k : Int))], Os k⟩) (⟨by omega, fun j hj => absurd hj (by omega)⟩) ?_ (fun k hk hp => ?_)))))
  · exact qI (SubT.cons (zT rfl) (SubT.cons (zT rfl) (SubT.cons (zT rfl) (SubT.cons (zT rfl) (SubT.nil))))) (fun _ _ h => h) (by simp [allT, AV.allL, hO.all]) (hO.self _) (fun l hl => by rw [hO.dom]; exact (hL l).1 hl)
  refine qd (qb (zA rfl (qn rfl rfl rfl rfl) (qc (qa (qd (qu rfl (fun c0 => ?_) (fun c0 => ?_)))))))
  · try simp only [↓cqA, cqB] at c0
    obtain ⟨u, hu⟩ := qK (l := ts) (k := k) (by omega)
    refine qt (qa (qd (qB (qd (qb (zM rfl rfl rfl (zN rfl rfl rfl ?_))))))); refine qc (qa (qd (qb (zM rfl rfl rfl (zM rfl rfl rfl (zM rfl rfl rfl ?_))))))
    refine zA rfl (qo rfl qv rfl rfl (by omega) (by rw [hes, List.getElem?_map]; exact congrArg (Option.map tmD) hu)) ?_; refine zA rfl (qD rfl qi rfl rfl) ?_; refine qaN (avs := [_]) B rfl rfl rfl (by decide) hen rfl rfl (hstep k u hu hp.2) (by rw [List.cons_append, List.nil_append]; simp only [AV.cvs, hO.cvs]; rfl) (hO.pass k) (by rintro r O' ⟨_, rfl⟩ l hl; left; rw [hO.dom] at hl ⊢; exact hl) (by rintro hB r O' ⟨rfl, rfl⟩; exact ⟨rfl, hO.q hB _⟩) ?_
    rintro r O' ⟨rfl, rfl⟩
    refine qc (qa (qu rfl (fun c1 => ?_) (fun c1 => ?_)))
    · try simp only [↓cqA, cqB] at c1
      refine qd (qb (zM rfl rfl rfl (zN rfl rfl rfl (qc (qa (qm (qL (ql (ql (qL (ql (?_))))))))))))
      change retQ _ _ _ _ _ _ _
      refine retO (.inl rfl) (qf rfl qh) SubO.left rfl (hO.self _) (fun l hl => by rw [hO.dom]; exact (hL l).1 hl) ?_
      exact ⟨k, _, _, by omega, hp.2, .inl ⟨by omega, c1, rfl, rfl⟩, rfl, rfl⟩
    try simp only [↓cqA, cqB] at c1
    refine qt (qP (qa (qb (zA rfl (qM rfl rfl rfl (by omega)) (zM rfl rfl rfl (qc (qa ?_))))))); refine ⟨?_, ?_, ?_⟩
    · skip
      omega
    · skip
      refine ⟨by omega, fun j hj => ?_⟩
      by_cases hjk : j < k
      · exact hp.2 j hjk
      · rw [show j = k by omega]; exact c1
    exact qI (SubT.cons (zT rfl) (SubT.cons (zT rfl) (SubT.cons (zT rfl) (SubT.cons (zT rfl) (SubT.nil))))) (SubO.left) (by simp [allT, AV.allL, hO.all]) (hO.self _) (fun l hl => by rw [hO.dom]; exact (hL l).1 hl)
  try simp only [↓cqA, cqB] at c0
  refine qQ (qq (qq (q7 ?_))); refine qa (qd (qb (zN rfl rfl rfl (qc (qa (qm ?_))))))
  change retQ _ _ _ _ _ _ _
  refine retO (.inl rfl) (qf rfl qh) (fun _ _ h => h) rfl (hO.self _) (fun l hl => by rw [hO.dom]; exact (hL l).1 hl) ?_
  exact ⟨k, _, _, by omega, hp.2, .inr ⟨by omega, rfl, rfl⟩, rfl, rfl⟩
theorem ContainsFunc_tm_ok (B : Bool) (ts : List Tm) (es : List (List D)) (hes : es = ts.map tmD) (hlen : ts.length ≤ 140737488351232) (g : FuncId) (caps : List AV) (hen : qX Tryz.prog g) (Os : Nat → List (Nat × Ob)) (p : Nat → Bool) (hO : Thread B caps Os)
    (hstep : ∀ k u, ts[k]? = some u → (∀ j, j < k → p j = false) → AC Tryz.prog g (tmA false u :: caps) (Os k) (fun r O => r = bv (p k) ∧ O = Os (k + 1))) :
    AC Tryz.prog 208 [.dat false 4 es, .fn g caps] (Os 0) (fun r O => ∃ m n b, m ≤ ts.length ∧ (∀ j, j < m → p j = false) ∧ ((m < ts.length ∧ p m = true ∧ b = true ∧ n = m + 1) ∨ (m = ts.length ∧ b = false ∧ n = m)) ∧ r = bv b ∧ O = Os n) := by
  refine qG Tryz.func208 rfl Tryz.ntmps208 (Nat.le_of_ble_eq_true rfl) fun c hL hQ hDD => (qd (qb (zN rfl rfl rfl (qc (qa (qd (qb ?_))))))); refine zM rfl rfl rfl (zM rfl rfl rfl ?_)
  refine qaN (avs := [_, _]) B rfl rfl rfl (by decide) qcE rfl rfl (IndexFunc_tm_ok B ts es hes hlen g caps hen Os p hO hstep) (by simp only [List.append_nil, AV.cvs, AV.cv, hO.cvs]; rfl) (hO.pass 0) (by rintro r O' ⟨m, n, i, _, _, _, _, rfl⟩ l hl; left; rw [hO.dom] at hl ⊢; exact hl) (by rintro hB r O' ⟨m, n, i, _, _, _, rfl, rfl⟩; exact ⟨rfl, hO.q hB _⟩) ?_
  rintro r O' ⟨m, n, i, hm, hf, hc, rfl, rfl⟩
  refine zA rfl (qn rfl rfl rfl rfl) (zN rfl rfl rfl (qc (qa (qm ?_))))
  -- leaf 
  change retQ _ _ _ _ _ _ _
  refine retO (.inl rfl) (qf rfl qh) SubO.left rfl (hO.self _) (fun l hl => by rw [hO.dom]; exact (hL l).1 hl) ?_; refine ⟨m, n, _, hm, hf, ?_, rfl, rfl⟩
  rcases hc with ⟨h1, h2, rfl, h3⟩ | ⟨h1, rfl, h3⟩
  · exact .inl ⟨h1, h2, by simp, h3⟩
  · exact .inr ⟨h1, by simp, h3⟩
def mayL (f : Tm → Int → Bool × Int) : List Tm → Int → Bool × Int
  | [], n => (true, n)
  | a :: l, n => if (f a n).1 then mayL f l (f a n).2 else (false, (f a n).2)
def mayS : Nat → Tm → Int → Bool × Int
  | 0, _, n => (false, n - 1)
  | d + 1, t, n =>
    if n - 1 < 0 then (false, n - 1)
    else if t.kind = 1 then (varB t.name && decide (t.n = 0) && decide (t.args.length = 0), n - 1)
    else if t.kind = 2 then (numB t.n && decide (t.name.size = 0) && decide (t.args.length = 0), n - 1)
    else if t.kind = 3 then (if nameB t.name && decide (t.n = 0) && decide (t.args.length ≤ 4) then mayL (mayS d) t.args (n - 1) else (false, n - 1))
    else (false, n - 1)
theorem mayL_range (f : Tm → Int → Bool × Int) (h : ∀ t n, 0 ≤ n → -1 ≤ (f t n).2 ∧ (f t n).2 ≤ n ∧ ((f t n).1 = true → 0 ≤ (f t n).2)) : ∀ (l : List Tm) (n : Int), 0 ≤ n → -1 ≤ (mayL f l n).2 ∧ (mayL f l n).2 ≤ n ∧ ((mayL f l n).1 = true → 0 ≤ (mayL f l n).2)
  | [], n, hn => by simp [mayL]; omega
  | a :: l, n, hn => by
    have h1 := h a n hn
    simp only [mayL]
    split
    · rename_i hb
      have := mayL_range f h l (f a n).2 (h1.2.2 hb)
      exact ⟨this.1, by omega, this.2.2⟩
    · exact ⟨h1.1, h1.2.1, by simp⟩
theorem mayS_range : ∀ (d : Nat) (t : Tm) (n : Int), 0 ≤ n → -1 ≤ (mayS d t n).2 ∧ (mayS d t n).2 ≤ n ∧ ((mayS d t n).1 = true → 0 ≤ (mayS d t n).2)
  | 0, t, n, hn => by simp [mayS]; omega
  | d + 1, t, n, hn => by
    simp only [mayS]
    split
    · simp; omega
    split
    · simp; omega
    split
    · simp; omega
    split
    · split
      · have := mayL_range (mayS d) (fun t n hn => mayS_range d t n hn) t.args (n - 1) (by omega)
        exact ⟨this.1, by omega, this.2.2⟩
      · simp; omega
    · simp; omega
def mayK0 (f : Tm → Int → Bool × Int) : Nat → List Tm → Int → Int
  | 0, _, n => n
  | _ + 1, [], n => n
  | k + 1, a :: l, n => mayK0 f k l (f a n).2
def mayK (f : Tm → Int → Bool × Int) (l : List Tm) (n : Int) (k : Nat) : Int := mayK0 f k l n
def mayP (f : Tm → Int → Bool × Int) : List Tm → Int → Nat → Bool
  | [], _, _ => false
  | a :: _, n, 0 => !(f a n).1
  | a :: l, n, k + 1 => mayP f l (f a n).2 k
theorem mayK_step (f : Tm → Int → Bool × Int) : ∀ (l : List Tm) (n : Int) (k : Nat) (u : Tm), l[k]? = some u → (∀ j, j < k → mayP f l n j = false) → mayP f l n k = !(f u (mayK f l n k)).1 ∧ mayK f l n (k + 1) = (f u (mayK f l n k)).2
  | [], n, k, u, hu, _ => by simp at hu
  | a :: l, n, 0, u, hu, _ => by
    simp only [List.getElem?_cons_zero, Option.some.injEq] at hu
    subst hu
    cases l <;> simp [mayP, mayK, mayK0]
  | a :: l, n, k + 1, u, hu, h => by
    simpa only [mayP, mayK, mayK0] using mayK_step f l (f a n).2 k u (by simpa using hu) (fun j hj => by simpa [mayP] using h (j + 1) (by omega))
theorem mayK_range (f : Tm → Int → Bool × Int) (h : ∀ t n, 0 ≤ n → -1 ≤ (f t n).2 ∧ (f t n).2 ≤ n ∧ ((f t n).1 = true → 0 ≤ (f t n).2)) : ∀ (l : List Tm) (n : Int) (k : Nat), 0 ≤ n → (∀ j, j < k → mayP f l n j = false) → k ≤ l.length → 0 ≤ mayK f l n k ∧ mayK f l n k ≤ n
  | l, n, 0, hn, _, _ => by cases l <;> simp [mayK, mayK0] <;> omega
  | [], n, k + 1, hn, _, hk => by simp at hk
  | a :: l, n, k + 1, hn, hj, hk => by
    have h0 := hj 0 (by omega)
    simp only [mayP, Bool.not_eq_false'] at h0
    have h1 := h a n hn
    have := mayK_range f h l (f a n).2 k (h1.2.2 h0) (fun j hj' => by simpa [mayP] using hj (j + 1) (by omega)) (by simpa using hk)
    simp only [mayK, mayK0] at this ⊢; omega
theorem mayL_end (f : Tm → Int → Bool × Int) : ∀ (l : List Tm) (n : Int) (m k : Nat) (b : Bool), (∀ j, j < m → mayP f l n j = false) → ((m < l.length ∧ mayP f l n m = true ∧ b = true ∧ k = m + 1) ∨ (m = l.length ∧ b = false ∧ k = m)) → mayL f l n = (!b, mayK f l n k)
  | [], n, m, k, b, _, hc => by
    rcases hc with ⟨h, _⟩ | ⟨rfl, rfl, rfl⟩
    · simp at h
    · simp [mayL, mayK, mayK0]
  | a :: l, n, 0, k, b, _, hc => by
    rcases hc with ⟨_, h, rfl, rfl⟩ | ⟨h, _⟩
    · simp only [mayP, Bool.not_eq_true'] at h
      cases l <;> simp [mayL, mayK, mayK0, h]
    · simp at h
  | a :: l, n, m + 1, k, b, hj, hc => by
    have h0 := hj 0 (by omega)
    simp only [mayP, Bool.not_eq_false'] at h0
    obtain ⟨k, rfl⟩ : ∃ k', k = k' + 1 := by rcases hc with ⟨_, _, _, rfl⟩ | ⟨_, _, rfl⟩ <;> exact ⟨_, rfl⟩
    have := mayL_end f l (f a n).2 m k b (fun j hj' => by simpa [mayP] using hj (j + 1) (by omega)) (by
      rcases hc with ⟨h1, h2, h3, h4⟩ | ⟨h1, h2, h3⟩
      · exact .inl ⟨by simpa using h1, by simpa [mayP] using h2, h3, by omega⟩
      · exact .inr ⟨by simpa using h1, h2, by omega⟩)
    simp only [mayL, h0, if_true, this, mayK, mayK0]
def MayC (d : Nat) : Prop := ∀ (e : Int), e = d → ∀ (t : Tm) (n : Int), t.wf → 0 ≤ n → n ≤ 24 → AC Tryz.prog 148 [tmA false t, iv e, .ptr 0 0] [(0, .box [iv n])] (fun r O => r = bv (mayS d t n).1 ∧ O = [(0, .box [iv (mayS d t n).2])])
theorem may1_ok (d : Nat) (hd : d < 5) (ih : MayC d) (e : Int) (he : e = d + 1) (t : Tm) (n : Int) (ht : t.wf) (h0 : 0 ≤ n) (h1 : n ≤ 24) : AC Tryz.prog 206 [tmA false t, .ptr 4 0, .ptr 5 0] [(4, .box [iv e]), (5, .box [.ptr 0 0]), (0, .box [iv n])]
    (fun r O => r = bv (!(mayS d t n).1) ∧ O = [(4, .box [iv e]), (5, .box [.ptr 0 0]), (0, .box [iv (mayS d t n).2])]) := by
  refine qG Tryz.func206 rfl Tryz.ntmps206 (Nat.le_of_ble_eq_true rfl) fun c hL hQ hDD => (qd (qb (qz rfl rfl (by decide) (qab 3 rfl rfl rfl) rfl (zN rfl rfl rfl (qc (qa (qd ?_))))))); refine qb (zA rfl (qw rfl qi rfl rfl rfl rfl) (zA rfl (qr rfl qay rfl rfl rfl rfl rfl) ?_))
  refine zA rfl (stp_sub rfl rfl rfl (by omega)) ?_; refine zA rfl (qr rfl tf_P_int rfl rfl rfl rfl rfl) ?_; refine qaN (avs := [_, _, _]) true rfl rfl rfl (by decide) en_term_may rfl rfl (ih (e - 1) (by omega) t n ht h0 h1) (rfl) (passO (.cons rfl trivial rfl .nil)) (by rintro r O' ⟨rfl, rfl⟩ l hl; exact .inl ((inD_dom (by rfl) l).trans hl)) (by rintro - r O' ⟨rfl, rfl⟩; exact ⟨rfl, rfl⟩) ?_
  rintro r O' ⟨rfl, rfl⟩
  refine zA rfl (qU rfl rfl) (zN rfl rfl rfl (qc (qa (qm ?_))))
  -- leaf 
  change retQ _ _ _ _ _ _ _
  refine retO (O' := [(4, _), (5, _), (0, _)]) (.inl rfl) (qf rfl qh) (SubO.cons rfl (SubO.cons rfl (SubO.cons rfl SubO.nil))) ?_ ?_ ?_ ?_
  · rfl
  · rfl
  · exact LO hL rfl
  · exact ⟨rfl, rfl⟩
theorem mayfin {D : Nat} {t : Tm} {n m : Int} {b : Bool} (h : mayS D t n = (b, m)) : resV [bv b] = bv (mayS D t n).1 ∧ [(0, Ob.box [iv m])] = [(0, Ob.box [iv (mayS D t n).2])] := by rw [h]; exact ⟨rfl, rfl⟩
theorem may_ok : ∀ d : Nat, d ≤ 5 → MayC d := by
  intro d
  induction d with
  | zero =>
    intro hd e he t n ht h0 h1
    refine qG Tryz.func148 rfl Tryz.ntmps148 (Nat.le_of_ble_eq_true rfl) fun c hL hQ hDD => (qd (qb (qz rfl rfl (by decide) (qab 3 rfl rfl rfl) rfl (qz rfl rfl (by decide) (qab 4 rfl rfl rfl) rfl (qz rfl rfl (by decide) (qab 5 rfl rfl rfl) rfl (zN rfl rfl rfl (qc ?_))))))); refine qa (qd (qb (zA rfl (qr rfl tf_P_int rfl rfl rfl rfl rfl) ?_)))
    refine zA rfl (stp_nilCheck rfl rfl) (zA rfl (qr rfl qay rfl rfl rfl rfl rfl) (zA rfl (stp_sub rfl rfl rfl (by omega)) (zA rfl (stp_nilCheck rfl rfl) (qO rfl rfl rfl qay rfl rfl rfl rfl rfl rfl rfl rfl rfl (qc (qa (qd ?_))))))); refine qd (qb (zA rfl (qr rfl qay rfl rfl rfl rfl rfl) ?_))
    refine zA rfl (qn rfl rfl rfl rfl) (zM rfl rfl rfl (qA 15 rfl (fun g15 => ?_) (fun g15 => ?_)))
    · try simp only [↓cqA, cqB] at g15
      refine zS rfl rfl rfl rfl (zS rfl rfl rfl rfl (zS rfl rfl rfl rfl (zS rfl rfl rfl rfl (zA rfl (qj rfl rfl rfl) (qc (qa (qaj rfl ?_))))))); refine qd (qb (zN rfl rfl rfl (qc (qa (qm (ql (?_)))))))
      -- leaf g15T
      change retQ _ _ _ _ _ _ _
      refine retO (O' := [(0, _)]) (.inl rfl) (qf rfl qh) (SubO.cons rfl SubO.nil) ?_ ?_ ?_ ?_
      · rfl
      · rfl
      · exact LO hL rfl
      exact mayfin (by simp [mayS])
    try simp only [↓cqA, cqB] at g15
    omega
  | succ d ih =>
    intro hd e he t n ht h0 h1
    have hlen := qaa t.args
    have hal := ht.2.2.2.1
    refine qG Tryz.func148 rfl Tryz.ntmps148 (Nat.le_of_ble_eq_true rfl) fun c hL hQ hDD => (qd (qb (qz rfl rfl (by decide) (qab 3 rfl rfl rfl) rfl (qz rfl rfl (by decide) (qab 4 rfl rfl rfl) rfl (qz rfl rfl (by decide) (qab 5 rfl rfl rfl) rfl (zN rfl rfl rfl (qc ?_))))))); refine qa (qd (qb (zA rfl (qr rfl tf_P_int rfl rfl rfl rfl rfl) ?_)))
    refine zA rfl (stp_nilCheck rfl rfl) (zA rfl (qr rfl qay rfl rfl rfl rfl rfl) (zA rfl (stp_sub rfl rfl rfl (by omega)) (zA rfl (stp_nilCheck rfl rfl) (qO rfl rfl rfl qay rfl rfl rfl rfl rfl rfl rfl rfl rfl (qc (qa (qd ?_))))))); refine qd (qb (zA rfl (qr rfl qay rfl rfl rfl rfl rfl) ?_))
    refine zA rfl (qn rfl rfl rfl rfl) (zM rfl rfl rfl (qA 15 rfl (fun g15 => ?_) (fun g15 => ?_)))
    · try simp only [↓cqA, cqB] at g15
      omega
    try simp only [↓cqA, cqB] at g15
    refine zG rfl rfl rfl rfl (qr rfl tf_P_int rfl rfl rfl rfl rfl) (zG rfl rfl rfl rfl (stp_nilCheck rfl rfl) (zG rfl rfl rfl rfl (qr rfl qay rfl rfl rfl rfl rfl) (zG rfl rfl rfl rfl (qn rfl rfl rfl rfl) (zA rfl (qj rfl rfl rfl) (qc (qa (qu rfl (fun c0 => ?_) (fun c0 => ?_))))))))
    · try simp only [↓cqA, cqB] at c0
      refine qd (qb (zN rfl rfl rfl (qc (qa (qm (ql (?_)))))))
      change retQ _ _ _ _ _ _ _
      refine retO (O' := [(0, _)]) (.inl rfl) (qf rfl qh) (SubO.cons rfl SubO.nil) ?_ ?_ ?_ ?_
      · rfl
      · rfl
      · exact LO hL rfl
      refine mayfin ?_
      rw [mayS, if_pos (by omega)]
    try simp only [↓cqA, cqB] at c0
    refine qt (qa (qd (qd (qb (zA rfl (qg rfl q9 rfl) (zA rfl (qr rfl qay rfl rfl rfl rfl rfl) (qc ?_))))))); refine qa (qB (qd (qb (zA rfl (qn rfl rfl rfl rfl) (zN rfl rfl rfl (qc (qa ?_))))))); refine qu rfl (fun c1 => ?_) (fun c1 => ?_)
    · try simp only [↓cqA, cqB] at c1
      refine qd (qb (zA rfl (qg rfl qad rfl) (zA rfl (qr rfl qT rfl rfl rfl rfl rfl) (qC (avs := [_]) true rfl rfl rfl (by decide) en_term_Var rfl rfl (Var_ok _) rfl rfl (zM rfl rfl rfl (qA 28 rfl (fun g28 => ?_) (fun g28 => ?_)))))))
      · try simp only [↓cqA, cqB] at g28
        refine zG rfl rfl rfl rfl (qg rfl qaB rfl) (zG rfl rfl rfl rfl (qr rfl qay rfl rfl rfl rfl rfl) (zG rfl rfl rfl rfl (qn rfl rfl rfl rfl) (zA rfl (qj rfl rfl rfl) (zM rfl rfl rfl (qA 33 rfl (fun g33 => ?_) (fun g33 => ?_))))))
        · try simp only [↓cqA, cqB] at g33
          refine zG rfl rfl rfl rfl (qg rfl qJ rfl) (zG rfl rfl rfl rfl (qr rfl qF rfl rfl rfl rfl rfl) (zG rfl rfl rfl rfl (qy rfl qv rfl) ?_))
          refine zG rfl rfl rfl rfl (qn rfl rfl rfl rfl) (zA rfl (qj rfl rfl rfl) (zN rfl rfl rfl (qc (qa (qm (qL (ql (?_))))))))
          -- leaf g15F0F1Tg28Tg33T
          change retQ _ _ _ _ _ _ _
          refine retO (O' := [(0, _)]) (.inl rfl) (qf rfl qh) (SubO.cons rfl SubO.nil) ?_ ?_ ?_ ?_
          · rfl
          · rfl
          · exact LO hL rfl
          refine mayfin ?_
          rw [mayS, if_neg (by omega)]
          simp_all [natBeq0]
          try (intro hx; omega)
        try simp only [↓cqA, cqB] at g33
        refine zS rfl rfl rfl rfl (zS rfl rfl rfl rfl (zS rfl rfl rfl rfl (zS rfl rfl rfl rfl (zA rfl (qj rfl rfl rfl) (zN rfl rfl rfl (qc (qa ?_))))))); refine qm (qL (ql (?_)))
        -- leaf g15F0F1Tg28Tg33F
        change retQ _ _ _ _ _ _ _
        refine retO (O' := [(0, _)]) (.inl rfl) (qf rfl qh) (SubO.cons rfl SubO.nil) ?_ ?_ ?_ ?_
        · rfl
        · rfl
        · exact LO hL rfl
        refine mayfin ?_
        rw [mayS, if_neg (by omega)]
        simp_all [natBeq0]
        try (intro hx; omega)
      try simp only [↓cqA, cqB] at g28
      refine zS rfl rfl rfl rfl (zS rfl rfl rfl rfl (zS rfl rfl rfl rfl (zA rfl (qj rfl rfl rfl) (zM rfl rfl rfl (zS rfl rfl rfl rfl ?_)))))
      refine zS rfl rfl rfl rfl (zS rfl rfl rfl rfl (zS rfl rfl rfl rfl (zA rfl (qj rfl rfl rfl) (zN rfl rfl rfl (qc (qa (qm ?_))))))); refine qL (ql (?_))
      -- leaf g15F0F1Tg28F
      change retQ _ _ _ _ _ _ _
      refine retO (O' := [(0, _)]) (.inl rfl) (qf rfl qh) (SubO.cons rfl SubO.nil) ?_ ?_ ?_ ?_
      · rfl
      · rfl
      · exact LO hL rfl
      refine mayfin ?_
      rw [mayS, if_neg (by omega)]
      simp_all [natBeq0]
      try (intro hx; omega)
    try simp only [↓cqA, cqB] at c1
    refine qd (qb (zA rfl (qn rfl rfl rfl rfl) (zN rfl rfl rfl (qc (qa (qu rfl (fun c2 => ?_) (fun c2 => ?_)))))))
    · try simp only [↓cqA, cqB] at c2
      refine qd (qb (zA rfl (qg rfl qaB rfl) (zA rfl (qr rfl qay rfl rfl rfl rfl rfl) (qC (avs := [_]) true rfl rfl rfl (by decide) en_term_Number rfl rfl (Number_ok _) rfl rfl (zM rfl rfl rfl (qA 44 rfl (fun g44 => ?_) (fun g44 => ?_)))))))
      · try simp only [↓cqA, cqB] at g44
        refine zG rfl rfl rfl rfl (qg rfl qad rfl) (zG rfl rfl rfl rfl (qr rfl qT rfl rfl rfl rfl rfl) (zG rfl rfl rfl rfl (qbn rfl rfl rfl rfl) (zA rfl (qj rfl rfl rfl) (zM rfl rfl rfl (qA 49 rfl (fun g49 => ?_) (fun g49 => ?_))))))
        · try simp only [↓cqA, cqB] at g49
          have g49 := size_zero.2 g49
          refine zG rfl rfl rfl rfl (qg rfl qJ rfl) (zG rfl rfl rfl rfl (qr rfl qF rfl rfl rfl rfl rfl) (zG rfl rfl rfl rfl (qy rfl qv rfl) ?_))
          refine zG rfl rfl rfl rfl (qn rfl rfl rfl rfl) (zA rfl (qj rfl rfl rfl) (zN rfl rfl rfl (qc (qa (qm (qL (ql (?_))))))))
          -- leaf g15F0F1F2Tg44Tg49T
          change retQ _ _ _ _ _ _ _
          refine retO (O' := [(0, _)]) (.inl rfl) (qf rfl qh) (SubO.cons rfl SubO.nil) ?_ ?_ ?_ ?_
          · rfl
          · rfl
          · exact LO hL rfl
          refine mayfin ?_
          rw [mayS, if_neg (by omega)]
          simp_all [natBeq0]
          try (intro hx; omega)
        try simp only [↓cqA, cqB] at g49
        have g49 : ¬ t.name.size = 0 := mt size_zero.1 g49
        refine zS rfl rfl rfl rfl (zS rfl rfl rfl rfl (zS rfl rfl rfl rfl (zS rfl rfl rfl rfl (zA rfl (qj rfl rfl rfl) (zN rfl rfl rfl (qc (qa ?_))))))); refine qm (qL (ql (?_)))
        -- leaf g15F0F1F2Tg44Tg49F
        change retQ _ _ _ _ _ _ _
        refine retO (O' := [(0, _)]) (.inl rfl) (qf rfl qh) (SubO.cons rfl SubO.nil) ?_ ?_ ?_ ?_
        · rfl
        · rfl
        · exact LO hL rfl
        refine mayfin ?_
        rw [mayS, if_neg (by omega)]
        simp_all [natBeq0]
        try (intro hx; omega)
      try simp only [↓cqA, cqB] at g44
      refine zS rfl rfl rfl rfl (zS rfl rfl rfl rfl (zS rfl rfl rfl rfl (zA rfl (qj rfl rfl rfl) (zM rfl rfl rfl (zS rfl rfl rfl rfl ?_)))))
      refine zS rfl rfl rfl rfl (zS rfl rfl rfl rfl (zS rfl rfl rfl rfl (zA rfl (qj rfl rfl rfl) (zN rfl rfl rfl (qc (qa (qm ?_))))))); refine qL (ql (?_))
      -- leaf g15F0F1F2Tg44F
      change retQ _ _ _ _ _ _ _
      refine retO (O' := [(0, _)]) (.inl rfl) (qf rfl qh) (SubO.cons rfl SubO.nil) ?_ ?_ ?_ ?_
      · rfl
      · rfl
      · exact LO hL rfl
      refine mayfin ?_
      rw [mayS, if_neg (by omega)]
      simp_all [natBeq0]
      try (intro hx; omega)
    try simp only [↓cqA, cqB] at c2
    refine qd (qb (zA rfl (qn rfl rfl rfl rfl) (zN rfl rfl rfl (qc (qa (qu rfl (fun c3 => ?_) (fun c3 => ?_)))))))
    · try simp only [↓cqA, cqB] at c3
      refine qd (qb (zA rfl (stp_makeFunc (vs := [_, _]) rfl rfl) (zN rfl rfl rfl (qc (qa (qd (qb ?_))))))); refine zA rfl (qg rfl qad rfl) (zA rfl (qr rfl qT rfl rfl rfl rfl rfl) ?_)
      refine qC (avs := [_]) true rfl rfl rfl (by decide) en_term_Name rfl rfl (Name_ok _) rfl rfl (zM rfl rfl rfl (qA 61 rfl (fun g61 => ?_) (fun g61 => ?_)))
      · try simp only [↓cqA, cqB] at g61
        refine zG rfl rfl rfl rfl (qg rfl qaB rfl) (zG rfl rfl rfl rfl (qr rfl qay rfl rfl rfl rfl rfl) (zG rfl rfl rfl rfl (qn rfl rfl rfl rfl) (zA rfl (qj rfl rfl rfl) (zM rfl rfl rfl (qA 66 rfl (fun g66 => ?_) (fun g66 => ?_))))))
        · try simp only [↓cqA, cqB] at g66
          refine zG rfl rfl rfl rfl (qg rfl qJ rfl) (zG rfl rfl rfl rfl (qr rfl qF rfl rfl rfl rfl rfl) (zG rfl rfl rfl rfl (qy rfl qv rfl) (zG rfl rfl rfl rfl (qn rfl rfl rfl rfl) (zA rfl (qj rfl rfl rfl) (zM rfl rfl rfl (qA 72 rfl (fun g72 => ?_) (fun g72 => ?_)))))))
          · try simp only [↓cqA, cqB] at g72
            have g72 : t.args.length ≤ 4 := by omega
            refine zG rfl rfl rfl rfl (qg rfl qJ rfl) (zG rfl rfl rfl rfl (qr rfl qF rfl rfl rfl rfl rfl) (zG rfl rfl rfl rfl (qk (.inl rfl) rfl) ?_))
            have hst : ∀ k u, t.args[k]? = some u → (∀ j, j < k → mayP (mayS d) t.args (n - 1) j = false) → AC Tryz.prog 206 [tmA false u, .ptr 4 0, .ptr 5 0] [(4, .box [iv e]), (5, .box [.ptr 0 0]), (0, .box [iv (mayK (mayS d) t.args (n - 1) k)])]
                (fun r O => r = bv (mayP (mayS d) t.args (n - 1) k) ∧ O = [(4, .box [iv e]), (5, .box [.ptr 0 0]), (0, .box [iv (mayK (mayS d) t.args (n - 1) (k + 1))])]) := fun k u hu hj => by
              obtain ⟨e1, e2⟩ := mayK_step (mayS d) t.args (n - 1) k u hu hj
              have hkl : k < t.args.length := by have := List.getElem?_eq_some_iff.1 hu; exact this.1
              have hr := mayK_range (mayS d) (fun t n hn => mayS_range d t n hn) t.args (n - 1) k (by omega) hj (by omega)
              rw [e1, e2]
              exact may1_ok d (by omega) (ih (by omega)) e (by omega) u _ (Tm.wfs_get ht.2.2.2.2 hu) hr.1 (by omega)
            refine awps_gcallP (avs := [_, _]) true rfl rfl rfl (by decide) rfl rfl (by decide) qcl rfl rfl (ContainsFunc_tm_ok true t.args _ (qb3 _) (by omega) _ [.ptr 4 0, .ptr 5 0] en_term_may_1 (fun k => [(4, .box [iv e]), (5, .box [.ptr 0 0]), (0, .box [iv (mayK (mayS d) t.args (n - 1) k)])]) (mayP (mayS d) t.args (n - 1)) ⟨fun k l => inD_dom (by rfl) l, fun k => passO (.cons rfl trivial rfl (.cons rfl trivial rfl (.cons rfl trivial rfl .nil))), fun k => rfl, fun k => rfl, fun k => rfl, fun k => rfl, fun _ k => rfl⟩ (fun k u hu hj => hst k u hu hj)) (rfl) (passO (.cons rfl trivial rfl (.cons rfl trivial rfl (.cons rfl trivial rfl .nil)))) (by rintro r O' ⟨m, k, b, _, _, _, _, rfl⟩ l hl; exact .inl ((inD_dom (by rfl) l).trans hl)) (by rintro - r O' ⟨m, k, b, _, _, _, rfl, rfl⟩; exact ⟨rfl, rfl⟩) ?_
            rintro r O' ⟨m, k, b, hm, hf, hc, rfl, rfl⟩
            refine zG rfl rfl rfl rfl (qU rfl rfl) (zA rfl (qj rfl rfl rfl) (zN rfl rfl rfl (qc (qa (qm (qL (ql (?_))))))))
            change retQ _ _ _ _ _ _ _
            refine retO (O' := [(0, _)]) (.inl rfl) (qf rfl qh) (SubO.cons rfl SubO.nil) ?_ ?_ ?_ ?_
            · rfl
            · rfl
            · exact LO hL rfl
            refine mayfin ?_
            rw [mayS, if_neg (by omega)]
            simp_all
            exact mayL_end (mayS d) t.args (n - 1) m k b hf hc
          try simp only [↓cqA, cqB] at g72
          have g72 : ¬ t.args.length ≤ 4 := by omega
          refine zS rfl rfl rfl rfl (zS rfl rfl rfl rfl (zS rfl rfl rfl rfl ?_))
          have hst : ∀ k u, t.args[k]? = some u → (∀ j, j < k → mayP (mayS d) t.args (n - 1) j = false) → AC Tryz.prog 206 [tmA false u, .ptr 4 0, .ptr 5 0] [(4, .box [iv e]), (5, .box [.ptr 0 0]), (0, .box [iv (mayK (mayS d) t.args (n - 1) k)])]
              (fun r O => r = bv (mayP (mayS d) t.args (n - 1) k) ∧ O = [(4, .box [iv e]), (5, .box [.ptr 0 0]), (0, .box [iv (mayK (mayS d) t.args (n - 1) (k + 1))])]) := fun k u hu hj => by
            obtain ⟨e1, e2⟩ := mayK_step (mayS d) t.args (n - 1) k u hu hj
            have hkl : k < t.args.length := by have := List.getElem?_eq_some_iff.1 hu; exact this.1
            have hr := mayK_range (mayS d) (fun t n hn => mayS_range d t n hn) t.args (n - 1) k (by omega) hj (by omega)
            rw [e1, e2]
            exact may1_ok d (by omega) (ih (by omega)) e (by omega) u _ (Tm.wfs_get ht.2.2.2.2 hu) hr.1 (by omega)
          refine zS rfl rfl rfl rfl (zS rfl rfl rfl rfl (zA rfl (qj rfl rfl rfl) (zN rfl rfl rfl (qc (qa (qm (qL (ql (?_)))))))))
          -- leaf g15F0F1F2F3Tg61Tg66Tg72F
          change retQ _ _ _ _ _ _ _
          refine retO (O' := [(0, _)]) (.inl rfl) (qf rfl qh) (SubO.cons rfl SubO.nil) ?_ ?_ ?_ ?_
          · rfl
          · rfl
          · exact LO hL rfl
          refine mayfin ?_
          rw [mayS, if_neg (by omega)]
          simp_all [natBeq0]
          try (intro hx; omega)
        try simp only [↓cqA, cqB] at g66
        refine zS rfl rfl rfl rfl (zS rfl rfl rfl rfl (zS rfl rfl rfl rfl (zS rfl rfl rfl rfl (zA rfl (qj rfl rfl rfl) (zM rfl rfl rfl (zS rfl rfl rfl rfl (zS rfl rfl rfl rfl ?_))))))); refine zS rfl rfl rfl rfl ?_
        have hst : ∀ k u, t.args[k]? = some u → (∀ j, j < k → mayP (mayS d) t.args (n - 1) j = false) → AC Tryz.prog 206 [tmA false u, .ptr 4 0, .ptr 5 0] [(4, .box [iv e]), (5, .box [.ptr 0 0]), (0, .box [iv (mayK (mayS d) t.args (n - 1) k)])]
            (fun r O => r = bv (mayP (mayS d) t.args (n - 1) k) ∧ O = [(4, .box [iv e]), (5, .box [.ptr 0 0]), (0, .box [iv (mayK (mayS d) t.args (n - 1) (k + 1))])]) := fun k u hu hj => by
          obtain ⟨e1, e2⟩ := mayK_step (mayS d) t.args (n - 1) k u hu hj
          have hkl : k < t.args.length := by have := List.getElem?_eq_some_iff.1 hu; exact this.1
          have hr := mayK_range (mayS d) (fun t n hn => mayS_range d t n hn) t.args (n - 1) k (by omega) hj (by omega)
          rw [e1, e2]
          exact may1_ok d (by omega) (ih (by omega)) e (by omega) u _ (Tm.wfs_get ht.2.2.2.2 hu) hr.1 (by omega)
        refine zS rfl rfl rfl rfl (zS rfl rfl rfl rfl (zA rfl (qj rfl rfl rfl) (zN rfl rfl rfl (qc (qa (qm (qL (ql (?_)))))))))
        -- leaf g15F0F1F2F3Tg61Tg66F
        change retQ _ _ _ _ _ _ _
        refine retO (O' := [(0, _)]) (.inl rfl) (qf rfl qh) (SubO.cons rfl SubO.nil) ?_ ?_ ?_ ?_
        · rfl
        · rfl
        · exact LO hL rfl
        refine mayfin ?_
        rw [mayS, if_neg (by omega)]
        simp_all [natBeq0]
        try (intro hx; omega)
      try simp only [↓cqA, cqB] at g61
      refine zS rfl rfl rfl rfl (zS rfl rfl rfl rfl (zS rfl rfl rfl rfl (zA rfl (qj rfl rfl rfl) (zM rfl rfl rfl (zS rfl rfl rfl rfl ?_)))))
      refine zS rfl rfl rfl rfl (zS rfl rfl rfl rfl (zS rfl rfl rfl rfl (zA rfl (qj rfl rfl rfl) (zM rfl rfl rfl (zS rfl rfl rfl rfl (zS rfl rfl rfl rfl (zS rfl rfl rfl rfl ?_)))))))
      have hst : ∀ k u, t.args[k]? = some u → (∀ j, j < k → mayP (mayS d) t.args (n - 1) j = false) → AC Tryz.prog 206 [tmA false u, .ptr 4 0, .ptr 5 0] [(4, .box [iv e]), (5, .box [.ptr 0 0]), (0, .box [iv (mayK (mayS d) t.args (n - 1) k)])]
          (fun r O => r = bv (mayP (mayS d) t.args (n - 1) k) ∧ O = [(4, .box [iv e]), (5, .box [.ptr 0 0]), (0, .box [iv (mayK (mayS d) t.args (n - 1) (k + 1))])]) := fun k u hu hj => by
        obtain ⟨e1, e2⟩ := mayK_step (mayS d) t.args (n - 1) k u hu hj
        have hkl : k < t.args.length := by have := List.getElem?_eq_some_iff.1 hu; exact this.1
        have hr := mayK_range (mayS d) (fun t n hn => mayS_range d t n hn) t.args (n - 1) k (by omega) hj (by omega)
        rw [e1, e2]
        exact may1_ok d (by omega) (ih (by omega)) e (by omega) u _ (Tm.wfs_get ht.2.2.2.2 hu) hr.1 (by omega)
      refine zS rfl rfl rfl rfl (zS rfl rfl rfl rfl (zA rfl (qj rfl rfl rfl) (zN rfl rfl rfl (qc (qa (qm (qL (ql (?_)))))))))
      -- leaf g15F0F1F2F3Tg61F
      change retQ _ _ _ _ _ _ _
      refine retO (O' := [(0, _)]) (.inl rfl) (qf rfl qh) (SubO.cons rfl SubO.nil) ?_ ?_ ?_ ?_
      · rfl
      · rfl
      · exact LO hL rfl
      refine mayfin ?_
      rw [mayS, if_neg (by omega)]
      simp_all [natBeq0]
      try (intro hx; omega)
    try simp only [↓cqA, cqB] at c3
    refine qt (qP (qa (qd (qb (zN rfl rfl rfl (qc (qa ?_))))))); refine qm ?_
    -- leaf g15F0F1F2F3F
    change retQ _ _ _ _ _ _ _
    refine retO (O' := [(0, _)]) (.inl rfl) (qf rfl qh) (SubO.cons rfl SubO.nil) ?_ ?_ ?_ ?_
    · rfl
    · rfl
    · exact LO hL rfl
    refine mayfin ?_
    rw [mayS, if_neg (by omega)]
    simp_all [natBeq0]
    try (intro hx; omega)
def mayT (t : Tm) : Bool := (mayS 5 t 24).1
theorem May_ok (t : Tm) (ht : t.wf) : PF 88 [tmA false t] (bv (mayT t)) := by
  have key := AC_rnE 0 3 (may_ok 5 (by omega) 5 rfl t 24 ht (by omega) (by omega))
  refine qG Tryz.func88 rfl Tryz.ntmps88 (Nat.le_of_ble_eq_true rfl) fun c hL hQ hDD => (qd (qb (qz rfl rfl (by decide) (qab 1 rfl rfl rfl) rfl (zN rfl rfl rfl (qc (qa (qd ?_))))))); refine qb (qz rfl rfl (by decide) (qaf 3 rfl zv_int rfl) rfl (qO rfl rfl rfl qay rfl rfl rfl rfl rfl rfl rfl rfl rfl (qc (qa (qd (qb ?_))))))
  refine zA rfl (qw rfl qi rfl rfl rfl rfl) ?_; refine qaN (avs := [_, _, _]) true rfl rfl rfl (by decide) en_term_may rfl rfl (key) (rfl) (passO (.cons rfl trivial rfl .nil)) (by rintro r O' ⟨rfl, rfl⟩ l hl; exact .inl ((inD_dom (by rfl) l).trans hl)) (by rintro - r O' ⟨rfl, rfl⟩; exact ⟨rfl, rfl⟩) ?_
  rintro r O' ⟨rfl, rfl⟩
  refine zN rfl rfl rfl (qc (qa (qm ?_)))
  -- leaf 
  refine ret0 (noL hL) (.inl rfl) (qf rfl (qh)) ?_ ?_
  · rfl
  exact ⟨rfl, rfl⟩
end Go.Proofs.YtdecgkhdbfgldaaGreat
