/- Part 5 of the proof: Ty, Rd, Tw, Fa, Top, Fb. -/
import Derived.Test.YtpgceiijoedppaaGreatB4
import Derived.Test.YtpgceiijoedppaaGreatProg
import Derived.WalkKit
import Derived.ProofKit
import Derived.OpenShut
import Derived.ShutString
import Derived.ChangeOld
import Derived.Below
import Derived.SizedLaws
import Derived.JoinedOf
set_option linter.unusedVariables false
set_option maxRecDepth 10000
namespace Go.Proofs.YtpgceiijoedppaaGreat
open Go
theorem by_int : Tryz.prog.bytesOf 3 = 8 := by kernel_rfl
theorem qU : tfB Tryz.prog 3 false 1 = true := by kernel_rfl
theorem zv_int : zvB Tryz.prog 3 = some (some [.int .i64 0]) := by kernel_rfl
theorem ul_int : Tryz.prog.underlying 3 = some (.int .i64) := by kernel_rfl
theorem us_int : (Tryz.prog.underlying 3).isSome = true := by kernel_rfl
theorem ul_bool : Tryz.prog.underlying 4 = some .bool := by kernel_rfl
theorem qaf : tfB Tryz.prog 9 false 1 = true := by kernel_rfl
theorem zv_string : zvB Tryz.prog 9 = some (some [.string ⟨#[]⟩]) := by kernel_rfl
theorem qbG : Tryz.prog.underlying 9 = some .string := by kernel_rfl
theorem tf_S_api_Kept : tfB Tryz.prog 22 false 1 = true := by kernel_rfl
theorem qaq : slB Tryz.prog 22 71 7 = true := by kernel_rfl
theorem qM : tfB Tryz.prog 23 false 1 = true := by kernel_rfl
theorem zv_S_api_Pattern : zvB Tryz.prog 23 = some (some [.slice none 0 0]) := by kernel_rfl
theorem qG : slB Tryz.prog 23 36 9 = true := by kernel_rfl
theorem ta_S_api_Pattern : TyA Tryz.prog 23 36 9 144 := ⟨qG, ⟨.agg #[.int .i64 0, .int .i64 0, .string ⟨#[]⟩, .int .i64 0, .slice none 0 0, .int .i64 0, .slice none 0 0, .slice none 0 0, .slice none 0 0], by kernel_rfl, rfl⟩, by decide⟩
theorem tf_S_api_Match : tfB Tryz.prog 24 false 1 = true := by kernel_rfl
theorem qz : slB Tryz.prog 24 55 4 = true := by kernel_rfl
theorem qcU : TyA Tryz.prog 24 55 4 64 := ⟨qz, ⟨.agg #[.slice none 0 0, .int .i64 0, .int .i64 0, .slice none 0 0], by kernel_rfl, rfl⟩, by decide⟩
theorem tf_almagestlaw13_Ask : tfB Tryz.prog 26 true 4 = true := by kernel_rfl
theorem qcf : foB Tryz.prog 26 0 0 = true := by kernel_rfl
theorem qcX : foB Tryz.prog 26 1 1 = true := by kernel_rfl
theorem fo_almagestlaw13_Ask_3 : foB Tryz.prog 26 3 3 = true := by kernel_rfl
theorem st_almagestlaw13_Ask : stB Tryz.prog 26 [(22, 0, 1), (23, 1, 1), (3, 2, 1), (24, 3, 1)] 4 = true := by kernel_rfl
theorem q7 : tfB Tryz.prog 27 false 1 = true := by kernel_rfl
theorem qI : slB Tryz.prog 27 34 4 = true := by kernel_rfl
theorem ta_S_api_Term : TyA Tryz.prog 27 34 4 56 := ⟨qI, ⟨.agg #[.int .i64 0, .string ⟨#[]⟩, .int .i64 0, .slice none 0 0], by kernel_rfl, rfl⟩, by decide⟩
theorem qdQ : tfB Tryz.prog 28 false 1 = true := by kernel_rfl
theorem qdk : slB Tryz.prog 28 39 16 = true := by kernel_rfl
theorem qbM : tfB Tryz.prog 29 false 1 = true := by kernel_rfl
theorem qaL : slB Tryz.prog 29 3 1 = true := by kernel_rfl
theorem ta_S_int : TyA Tryz.prog 29 3 1 8 := ⟨qaL, ⟨(.int .i64 0 : Value), by kernel_rfl, rfl⟩, by decide⟩
theorem tf_almagestlaw14_Ask : tfB Tryz.prog 31 true 7 = true := by kernel_rfl
theorem qbI : foB Tryz.prog 31 0 0 = true := by kernel_rfl
theorem fo_almagestlaw14_Ask_1 : foB Tryz.prog 31 1 4 = true := by kernel_rfl
theorem qbH : foB Tryz.prog 31 2 5 = true := by kernel_rfl
theorem qcW : foB Tryz.prog 31 3 6 = true := by kernel_rfl
theorem st_almagestlaw14_Ask : stB Tryz.prog 31 [(26, 0, 4), (27, 4, 1), (28, 5, 1), (29, 6, 1)] 7 = true := by kernel_rfl
theorem by_api_Term : Tryz.prog.bytesOf 34 = 56 := by kernel_rfl
theorem qw : tfB Tryz.prog 34 true 4 = true := by kernel_rfl
theorem qar : foB Tryz.prog 34 0 0 = true := by kernel_rfl
theorem qav : foB Tryz.prog 34 1 1 = true := by kernel_rfl
theorem qbc : foB Tryz.prog 34 2 2 = true := by kernel_rfl
theorem q8 : foB Tryz.prog 34 3 3 = true := by kernel_rfl
theorem st_api_Term : stB Tryz.prog 34 [(3, 0, 1), (9, 1, 1), (3, 2, 1), (27, 3, 1)] 4 = true := by kernel_rfl
theorem qdI : plB Tryz.prog 34 = some [(0, 1), (1, 1), (2, 1), (3, 1)] := by kernel_rfl
theorem qaw : zvB Tryz.prog 34 = some (some [.int .i64 0, .string ⟨#[]⟩, .int .i64 0, .slice none 0 0]) := by kernel_rfl
theorem by_api_Pattern : Tryz.prog.bytesOf 36 = 144 := by kernel_rfl
theorem qad : tfB Tryz.prog 36 true 9 = true := by kernel_rfl
theorem qao : foB Tryz.prog 36 0 0 = true := by kernel_rfl
theorem qbo : foB Tryz.prog 36 1 1 = true := by kernel_rfl
theorem qa7 : foB Tryz.prog 36 2 5 = true := by kernel_rfl
theorem qaQ : foB Tryz.prog 36 3 6 = true := by kernel_rfl
theorem qaP : foB Tryz.prog 36 4 7 = true := by kernel_rfl
theorem qaK : foB Tryz.prog 36 5 8 = true := by kernel_rfl
theorem st_api_Pattern : stB Tryz.prog 36 [(3, 0, 1), (34, 1, 4), (3, 5, 1), (23, 6, 1), (23, 7, 1), (23, 8, 1)] 9 = true := by kernel_rfl
theorem pl_api_Pattern : plB Tryz.prog 36 = some [(0, 1), (1, 4), (5, 1), (6, 1), (7, 1), (8, 1)] := by kernel_rfl
theorem zv_api_Pattern : zvB Tryz.prog 36 = some (some [.int .i64 0, .int .i64 0, .string ⟨#[]⟩, .int .i64 0, .slice none 0 0, .int .i64 0, .slice none 0 0, .slice none 0 0, .slice none 0 0]) := by kernel_rfl
theorem qdz : tfB Tryz.prog 37 false 1 = true := by kernel_rfl
theorem qa8 : slB Tryz.prog 37 87 9 = true := by kernel_rfl
theorem by_api_Rule : Tryz.prog.bytesOf 39 = 240 := by kernel_rfl
theorem qca : tfB Tryz.prog 39 true 16 = true := by kernel_rfl
theorem qcs : foB Tryz.prog 39 0 0 = true := by kernel_rfl
theorem qdn : foB Tryz.prog 39 1 4 = true := by kernel_rfl
theorem qdW : foB Tryz.prog 39 2 13 = true := by kernel_rfl
theorem fo_api_Rule_3 : foB Tryz.prog 39 3 14 = true := by kernel_rfl
theorem qdm : foB Tryz.prog 39 4 15 = true := by kernel_rfl
theorem st_api_Rule : stB Tryz.prog 39 [(34, 0, 4), (36, 4, 9), (37, 13, 1), (3, 14, 1), (3, 15, 1)] 16 = true := by kernel_rfl
theorem pl_api_Rule : plB Tryz.prog 39 = some [(0, 4), (4, 9), (13, 1), (14, 1), (15, 1)] := by kernel_rfl
theorem zv_api_Rule : zvB Tryz.prog 39 = some (some [.int .i64 0, .string ⟨#[]⟩, .int .i64 0, .slice none 0 0, .int .i64 0, .int .i64 0, .string ⟨#[]⟩, .int .i64 0, .slice none 0 0, .int .i64 0, .slice none 0 0, .slice none 0 0, .slice none 0 0, .slice none 0 0, .int .i64 0, .int .i64 0]) := by kernel_rfl
theorem qap : tfB Tryz.prog 51 false 1 = true := by kernel_rfl
theorem qO : slB Tryz.prog 51 143 5 = true := by kernel_rfl
theorem qdi : TyA Tryz.prog 51 143 5 72 := ⟨qO, ⟨.agg #[.string ⟨#[]⟩, .int .i64 0, .string ⟨#[]⟩, .int .i64 0, .slice none 0 0], by kernel_rfl, rfl⟩, by decide⟩
theorem qaO : tfB Tryz.prog 53 true 2 = true := by kernel_rfl
theorem qah : foB Tryz.prog 53 0 0 = true := by kernel_rfl
theorem qat : foB Tryz.prog 53 1 1 = true := by kernel_rfl
theorem st_api_Span : stB Tryz.prog 53 [(3, 0, 1), (3, 1, 1)] 2 = true := by kernel_rfl
theorem pl_api_Span : plB Tryz.prog 53 = some [(0, 1), (1, 1)] := by kernel_rfl
theorem zv_api_Span : zvB Tryz.prog 53 = some (some [.int .i64 0, .int .i64 0]) := by kernel_rfl
theorem by_api_Match : Tryz.prog.bytesOf 55 = 64 := by kernel_rfl
theorem qV : tfB Tryz.prog 55 true 4 = true := by kernel_rfl
theorem qaA : foB Tryz.prog 55 0 0 = true := by kernel_rfl
theorem q9 : foB Tryz.prog 55 1 1 = true := by kernel_rfl
theorem qaY : foB Tryz.prog 55 2 3 = true := by kernel_rfl
theorem st_api_Match : stB Tryz.prog 55 [(51, 0, 1), (53, 1, 2), (29, 3, 1)] 4 = true := by kernel_rfl
theorem qbk : plB Tryz.prog 55 = some [(0, 1), (1, 2), (3, 1)] := by kernel_rfl
theorem qax : zvB Tryz.prog 55 = some (some [.slice none 0 0, .int .i64 0, .int .i64 0, .slice none 0 0]) := by kernel_rfl
theorem qbg : tfB Tryz.prog 69 true 6 = true := by kernel_rfl
theorem qbP : foB Tryz.prog 69 0 0 = true := by kernel_rfl
theorem qb4 : foB Tryz.prog 69 1 4 = true := by kernel_rfl
theorem st_api_Fact : stB Tryz.prog 69 [(34, 0, 4), (53, 4, 2)] 6 = true := by kernel_rfl
theorem pl_api_Fact : plB Tryz.prog 69 = some [(0, 4), (4, 2)] := by kernel_rfl
theorem zv_api_Fact : zvB Tryz.prog 69 = some (some [.int .i64 0, .string ⟨#[]⟩, .int .i64 0, .slice none 0 0, .int .i64 0, .int .i64 0]) := by kernel_rfl
theorem by_api_Kept : Tryz.prog.bytesOf 71 = 80 := by kernel_rfl
theorem qb3 : foB Tryz.prog 71 0 0 = true := by kernel_rfl
theorem qbs : foB Tryz.prog 71 1 1 = true := by kernel_rfl
theorem st_api_Kept : stB Tryz.prog 71 [(3, 0, 1), (69, 1, 6)] 7 = true := by kernel_rfl
theorem qag : slB Tryz.prog 84 9 1 = true := by kernel_rfl
theorem qcy : TyA Tryz.prog 84 9 1 16 := ⟨qag, ⟨(.string ⟨#[]⟩ : Value), by kernel_rfl, rfl⟩, by decide⟩
theorem by_api_Guard : Tryz.prog.bytesOf 87 = 120 := by kernel_rfl
theorem qcl : tfB Tryz.prog 87 true 9 = true := by kernel_rfl
theorem qb8 : foB Tryz.prog 87 0 0 = true := by kernel_rfl
theorem qb7 : foB Tryz.prog 87 1 1 = true := by kernel_rfl
theorem qcA : foB Tryz.prog 87 2 5 = true := by kernel_rfl
theorem st_api_Guard : stB Tryz.prog 87 [(3, 0, 1), (34, 1, 4), (34, 5, 4)] 9 = true := by kernel_rfl
theorem zv_api_Guard : zvB Tryz.prog 87 = some (some [.int .i64 0, .int .i64 0, .string ⟨#[]⟩, .int .i64 0, .slice none 0 0, .int .i64 0, .string ⟨#[]⟩, .int .i64 0, .slice none 0 0]) := by kernel_rfl
theorem qaV : slB Tryz.prog 109 69 6 = true := by kernel_rfl
theorem ta_S_api_Fact : TyA Tryz.prog 109 69 6 72 := ⟨qaV, ⟨.agg #[.int .i64 0, .string ⟨#[]⟩, .int .i64 0, .slice none 0 0, .int .i64 0, .int .i64 0], by kernel_rfl, rfl⟩, by decide⟩
theorem ul_uint : Tryz.prog.underlying 125 = some (.int .u64) := by kernel_rfl
theorem us_uint : (Tryz.prog.underlying 125).isSome = true := by kernel_rfl
theorem by_api_Bind : Tryz.prog.bytesOf 143 = 72 := by kernel_rfl
theorem qaT : tfB Tryz.prog 143 true 5 = true := by kernel_rfl
theorem qaG : foB Tryz.prog 143 0 0 = true := by kernel_rfl
theorem qaZ : foB Tryz.prog 143 1 1 = true := by kernel_rfl
theorem st_api_Bind : stB Tryz.prog 143 [(9, 0, 1), (34, 1, 4)] 5 = true := by kernel_rfl
theorem pl_api_Bind : plB Tryz.prog 143 = some [(0, 1), (1, 4)] := by kernel_rfl
theorem qby : zvB Tryz.prog 143 = some (some [.string ⟨#[]⟩, .int .i64 0, .string ⟨#[]⟩, .int .i64 0, .slice none 0 0]) := by kernel_rfl
theorem tf_P_int : tfB Tryz.prog 193 false 1 = true := by kernel_rfl
theorem um_map_string_bool : Tryz.prog.underlying 248 = some (.map 9 4) := by kernel_rfl
theorem qco : slB Tryz.prog 292 23 1 = true := by kernel_rfl
theorem en_almagestlaw14_Heavy : qW Tryz.prog 18 := qD Tryz.func18 (by kernel_rfl) (by kernel_rfl)
theorem en_almagestref10_Rule : qW Tryz.prog 19 := qD Tryz.func19 (by kernel_rfl) (by kernel_rfl)
theorem en_almagestref7_Facts : qW Tryz.prog 20 := qD Tryz.func20 (by kernel_rfl) (by kernel_rfl)
theorem en_almagestlaw13_Light : qW Tryz.prog 21 := qD Tryz.func21 (by kernel_rfl) (by kernel_rfl)
theorem qcC : qW Tryz.prog 22 := qD Tryz.func22 (by kernel_rfl) (by kernel_rfl)
theorem en_rule_Chosen : qW Tryz.prog 23 := qD Tryz.func23 (by kernel_rfl) (by kernel_rfl)
theorem en_almagestlaw14_num : qW Tryz.prog 24 := qD Tryz.func24 (by kernel_rfl) (by kernel_rfl)
theorem en_almagestref0_EqMatches : qW Tryz.prog 25 := qD Tryz.func25 (by kernel_rfl) (by kernel_rfl)
theorem qd1 : qW Tryz.prog 26 := qD Tryz.func26 (by kernel_rfl) (by kernel_rfl)
theorem en_almagestref0_In : qW Tryz.prog 27 := qD Tryz.func27 (by kernel_rfl) (by kernel_rfl)
theorem qdv : qW Tryz.prog 28 := qD Tryz.func28 (by kernel_rfl) (by kernel_rfl)
theorem en_almagestlaw14_wakes : qW Tryz.prog 29 := qD Tryz.func29 (by kernel_rfl) (by kernel_rfl)
theorem en_almagestlaw13_Heavy : qW Tryz.prog 31 := qD Tryz.func31 (by kernel_rfl) (by kernel_rfl)
theorem en_almagestlaw0_Terms : qW Tryz.prog 48 := qD Tryz.func48 (by kernel_rfl) (by kernel_rfl)
theorem en_almagestlaw0_RuleWeight : qW Tryz.prog 49 := qD Tryz.func49 (by kernel_rfl) (by kernel_rfl)
theorem en_almagestref4_Rule : qW Tryz.prog 50 := qD Tryz.func50 (by kernel_rfl) (by kernel_rfl)
theorem qcZ : qW Tryz.prog 51 := qD Tryz.func51 (by kernel_rfl) (by kernel_rfl)
theorem qbZ : qW Tryz.prog 52 := qD Tryz.func52 (by kernel_rfl) (by kernel_rfl)
theorem qcv : qW Tryz.prog 53 := qD Tryz.func53 (by kernel_rfl) (by kernel_rfl)
theorem en_almagestref10_all : qW Tryz.prog 54 := qD Tryz.func54 (by kernel_rfl) (by kernel_rfl)
theorem qdK : qW Tryz.prog 55 := qD Tryz.func55 (by kernel_rfl) (by kernel_rfl)
theorem qcY : qW Tryz.prog 56 := qD Tryz.func56 (by kernel_rfl) (by kernel_rfl)
theorem qbY : qW Tryz.prog 57 := qD Tryz.func57 (by kernel_rfl) (by kernel_rfl)
theorem en_almagestref0_EqFact : qW Tryz.prog 58 := qD Tryz.func58 (by kernel_rfl) (by kernel_rfl)
theorem qd0 : qW Tryz.prog 59 := qD Tryz.func59 (by kernel_rfl) (by kernel_rfl)
theorem qcw : qW Tryz.prog 60 := qD Tryz.func60 (by kernel_rfl) (by kernel_rfl)
theorem en_almagestref1_Match : qW Tryz.prog 61 := qD Tryz.func61 (by kernel_rfl) (by kernel_rfl)
theorem qa6 : qW Tryz.prog 62 := qD Tryz.func62 (by kernel_rfl) (by kernel_rfl)
theorem en_almagestref13_joined : qW Tryz.prog 63 := qD Tryz.func63 (by kernel_rfl) (by kernel_rfl)
theorem en_show_Rule : qW Tryz.prog 64 := qD Tryz.func64 (by kernel_rfl) (by kernel_rfl)
theorem qbF : qW Tryz.prog 65 := qD Tryz.func65 (by kernel_rfl) (by kernel_rfl)
theorem en_rule_bad : qW Tryz.prog 66 := qD Tryz.func66 (by kernel_rfl) (by kernel_rfl)
theorem en_meet_Owns : qW Tryz.prog 67 := qD Tryz.func67 (by kernel_rfl) (by kernel_rfl)
theorem en_rule_best : qW Tryz.prog 68 := qD Tryz.func68 (by kernel_rfl) (by kernel_rfl)
theorem en_almagestref0_EqBinds : qW Tryz.prog 69 := qD Tryz.func69 (by kernel_rfl) (by kernel_rfl)
theorem en_almagestref0_EqNumbers : qW Tryz.prog 70 := qD Tryz.func70 (by kernel_rfl) (by kernel_rfl)
theorem en_almagestref1_word : qW Tryz.prog 71 := qD Tryz.func71 (by kernel_rfl) (by kernel_rfl)
theorem en_rule_Heads : qW Tryz.prog 72 := qD Tryz.func72 (by kernel_rfl) (by kernel_rfl)
theorem en_almagestlaw0_KeptsWeight : qW Tryz.prog 74 := qD Tryz.func74 (by kernel_rfl) (by kernel_rfl)
theorem en_almagestlaw0_MatchesWeight : qW Tryz.prog 75 := qD Tryz.func75 (by kernel_rfl) (by kernel_rfl)
theorem qbf : qW Tryz.prog 76 := qD Tryz.func76 (by kernel_rfl) (by kernel_rfl)
theorem qdP : qW Tryz.prog 79 := qD Tryz.func79 (by kernel_rfl) (by kernel_rfl)
theorem qaI : qW Tryz.prog 93 := qD Tryz.func93 (by kernel_rfl) (by kernel_rfl)
theorem en_almagestlaw0_GuardsWeight : qW Tryz.prog 94 := qD Tryz.func94 (by kernel_rfl) (by kernel_rfl)
theorem qbC : qW Tryz.prog 95 := qD Tryz.func95 (by kernel_rfl) (by kernel_rfl)
theorem en_almagestref4_Guards : qW Tryz.prog 96 := qD Tryz.func96 (by kernel_rfl) (by kernel_rfl)
theorem en_almagestref0_Num : qW Tryz.prog 97 := qD Tryz.func97 (by kernel_rfl) (by kernel_rfl)
theorem qbn : qW Tryz.prog 98 := qD Tryz.func98 (by kernel_rfl) (by kernel_rfl)
theorem en_almagestref7_Span : qW Tryz.prog 99 := qD Tryz.func99 (by kernel_rfl) (by kernel_rfl)
theorem qbh : qW Tryz.prog 100 := qD Tryz.func100 (by kernel_rfl) (by kernel_rfl)
theorem qbd : qW Tryz.prog 101 := qD Tryz.func101 (by kernel_rfl) (by kernel_rfl)
theorem qcu : qW Tryz.prog 102 := qD Tryz.func102 (by kernel_rfl) (by kernel_rfl)
theorem en_almagestref1_At : qW Tryz.prog 103 := qD Tryz.func103 (by kernel_rfl) (by kernel_rfl)
theorem qbq : qW Tryz.prog 104 := qD Tryz.func104 (by kernel_rfl) (by kernel_rfl)
theorem qdw : qW Tryz.prog 105 := qD Tryz.func105 (by kernel_rfl) (by kernel_rfl)
theorem qcg : qW Tryz.prog 106 := qD Tryz.func106 (by kernel_rfl) (by kernel_rfl)
theorem qct : qW Tryz.prog 107 := qD Tryz.func107 (by kernel_rfl) (by kernel_rfl)
theorem en_almagestref7_Hull : qW Tryz.prog 108 := qD Tryz.func108 (by kernel_rfl) (by kernel_rfl)
theorem en_almagestref0_CopyNumbers : qW Tryz.prog 109 := qD Tryz.func109 (by kernel_rfl) (by kernel_rfl)
theorem qcL : qW Tryz.prog 110 := qD Tryz.func110 (by kernel_rfl) (by kernel_rfl)
theorem en_show_Is : qW Tryz.prog 111 := qD Tryz.func111 (by kernel_rfl) (by kernel_rfl)
theorem en_show_Guards : qW Tryz.prog 112 := qD Tryz.func112 (by kernel_rfl) (by kernel_rfl)
theorem qdd : qW Tryz.prog 113 := qD Tryz.func113 (by kernel_rfl) (by kernel_rfl)
theorem en_bind_May : qW Tryz.prog 114 := qD Tryz.func114 (by kernel_rfl) (by kernel_rfl)
theorem en_meet_Own : qW Tryz.prog 115 := qD Tryz.func115 (by kernel_rfl) (by kernel_rfl)
theorem en_rule_fresh : qW Tryz.prog 116 := qD Tryz.func116 (by kernel_rfl) (by kernel_rfl)
theorem en_meet_Compare : qW Tryz.prog 117 := qD Tryz.func117 (by kernel_rfl) (by kernel_rfl)
theorem en_almagestref0_EqBind : qW Tryz.prog 118 := qD Tryz.func118 (by kernel_rfl) (by kernel_rfl)
theorem en_almagestref1_tail : qW Tryz.prog 119 := qD Tryz.func119 (by kernel_rfl) (by kernel_rfl)
theorem en_bind_Put : qW Tryz.prog 120 := qD Tryz.func120 (by kernel_rfl) (by kernel_rfl)
theorem en_term_Is : qW Tryz.prog 121 := qD Tryz.func121 (by kernel_rfl) (by kernel_rfl)
theorem qdC : qW Tryz.prog 122 := qD Tryz.func122 (by kernel_rfl) (by kernel_rfl)
theorem en_facts_Compare : qW Tryz.prog 123 := qD Tryz.func123 (by kernel_rfl) (by kernel_rfl)
theorem qbS : qW Tryz.prog 124 := qD Tryz.func124 (by kernel_rfl) (by kernel_rfl)
theorem en_rule_Heads_1 : qW Tryz.prog 125 := qD Tryz.func125 (by kernel_rfl) (by kernel_rfl)
theorem en_almagestlaw0_BindsWeight : qW Tryz.prog 134 := qD Tryz.func134 (by kernel_rfl) (by kernel_rfl)
theorem en_almagestref0_CopyTerms : qW Tryz.prog 139 := qD Tryz.func139 (by kernel_rfl) (by kernel_rfl)
theorem en_term_Own : qW Tryz.prog 141 := qD Tryz.func141 (by kernel_rfl) (by kernel_rfl)
theorem en_slices_Contains_int_int : qW Tryz.prog 148 := qD Tryz.func148 (by kernel_rfl) (by kernel_rfl)
theorem qdt : qW Tryz.prog 157 := qD Tryz.func157 (by kernel_rfl) (by kernel_rfl)
theorem en_almagestref4_Guard : qW Tryz.prog 158 := qD Tryz.func158 (by kernel_rfl) (by kernel_rfl)
theorem en_almagestref0_EqTerms : qW Tryz.prog 159 := qD Tryz.func159 (by kernel_rfl) (by kernel_rfl)
theorem qbB : qW Tryz.prog 160 := qD Tryz.func160 (by kernel_rfl) (by kernel_rfl)
theorem qcF : qW Tryz.prog 161 := qD Tryz.func161 (by kernel_rfl) (by kernel_rfl)
theorem qbT : qW Tryz.prog 162 := qD Tryz.func162 (by kernel_rfl) (by kernel_rfl)
theorem qdf : qW Tryz.prog 163 := qD Tryz.func163 (by kernel_rfl) (by kernel_rfl)
theorem en_almagestref7_Turn : qW Tryz.prog 164 := qD Tryz.func164 (by kernel_rfl) (by kernel_rfl)
theorem en_term_may : qW Tryz.prog 165 := qD Tryz.func165 (by kernel_rfl) (by kernel_rfl)
theorem en_show_may : qW Tryz.prog 166 := qD Tryz.func166 (by kernel_rfl) (by kernel_rfl)
theorem en_show_Guards_1 : qW Tryz.prog 167 := qD Tryz.func167 (by kernel_rfl) (by kernel_rfl)
theorem en_show_atom : qW Tryz.prog 168 := qD Tryz.func168 (by kernel_rfl) (by kernel_rfl)
theorem en_show_none : qW Tryz.prog 169 := qD Tryz.func169 (by kernel_rfl) (by kernel_rfl)
theorem qcS : qW Tryz.prog 170 := qD Tryz.func170 (by kernel_rfl) (by kernel_rfl)
theorem qcR : qW Tryz.prog 171 := qD Tryz.func171 (by kernel_rfl) (by kernel_rfl)
theorem en_term_Var : qW Tryz.prog 172 := qD Tryz.func172 (by kernel_rfl) (by kernel_rfl)
theorem en_bind_May_1 : qW Tryz.prog 173 := qD Tryz.func173 (by kernel_rfl) (by kernel_rfl)
theorem en_bind_find : qW Tryz.prog 174 := qD Tryz.func174 (by kernel_rfl) (by kernel_rfl)
theorem qdD : qW Tryz.prog 175 := qD Tryz.func175 (by kernel_rfl) (by kernel_rfl)
theorem en_term_Names : qW Tryz.prog 176 := qD Tryz.func176 (by kernel_rfl) (by kernel_rfl)
theorem en_bind_terms : qW Tryz.prog 177 := qD Tryz.func177 (by kernel_rfl) (by kernel_rfl)
theorem en_bind_Own : qW Tryz.prog 178 := qD Tryz.func178 (by kernel_rfl) (by kernel_rfl)
theorem en_slices_Clone_int_int : qW Tryz.prog 179 := qD Tryz.func179 (by kernel_rfl) (by kernel_rfl)
theorem en_slices_ContainsFunc_int_int : qW Tryz.prog 180 := qD Tryz.func180 (by kernel_rfl) (by kernel_rfl)
theorem en_rule_fresh_1 : qW Tryz.prog 181 := qD Tryz.func181 (by kernel_rfl) (by kernel_rfl)
theorem en_cmp_Or_int : qW Tryz.prog 182 := qD Tryz.func182 (by kernel_rfl) (by kernel_rfl)
theorem en_slices_Compare_int_int : qW Tryz.prog 183 := qD Tryz.func183 (by kernel_rfl) (by kernel_rfl)
theorem qbp : qW Tryz.prog 184 := qD Tryz.func184 (by kernel_rfl) (by kernel_rfl)
theorem qbR : qW Tryz.prog 185 := qD Tryz.func185 (by kernel_rfl) (by kernel_rfl)
theorem en_meet_one : qW Tryz.prog 186 := qD Tryz.func186 (by kernel_rfl) (by kernel_rfl)
theorem en_term_Turned : qW Tryz.prog 187 := qD Tryz.func187 (by kernel_rfl) (by kernel_rfl)
theorem en_bind_Put_1 : qW Tryz.prog 188 := qD Tryz.func188 (by kernel_rfl) (by kernel_rfl)
theorem en_bind_Look : qW Tryz.prog 189 := qD Tryz.func189 (by kernel_rfl) (by kernel_rfl)
theorem en_term_Compare : qW Tryz.prog 192 := qD Tryz.func192 (by kernel_rfl) (by kernel_rfl)
theorem en_term_Own_1 : qW Tryz.prog 203 := qD Tryz.func203 (by kernel_rfl) (by kernel_rfl)
theorem en_slices_Index_int_int : qW Tryz.prog 212 := qD Tryz.func212 (by kernel_rfl) (by kernel_rfl)
theorem en_almagestref1_Atom : qW Tryz.prog 214 := qD Tryz.func214 (by kernel_rfl) (by kernel_rfl)
theorem en_almagestref1_Var : qW Tryz.prog 220 := qD Tryz.func220 (by kernel_rfl) (by kernel_rfl)
theorem qdu : qW Tryz.prog 221 := qD Tryz.func221 (by kernel_rfl) (by kernel_rfl)
theorem en_almagestref1_text : qW Tryz.prog 222 := qD Tryz.func222 (by kernel_rfl) (by kernel_rfl)
theorem en_term_Number : qW Tryz.prog 223 := qD Tryz.func223 (by kernel_rfl) (by kernel_rfl)
theorem en_term_may_1 : qW Tryz.prog 224 := qD Tryz.func224 (by kernel_rfl) (by kernel_rfl)
theorem en_term_Name : qW Tryz.prog 225 := qD Tryz.func225 (by kernel_rfl) (by kernel_rfl)
theorem qc2 : qW Tryz.prog 226 := qD Tryz.func226 (by kernel_rfl) (by kernel_rfl)
theorem en_show_fields : qW Tryz.prog 227 := qD Tryz.func227 (by kernel_rfl) (by kernel_rfl)
theorem qcB : qW Tryz.prog 228 := qD Tryz.func228 (by kernel_rfl) (by kernel_rfl)
theorem qc3 : qW Tryz.prog 229 := qD Tryz.func229 (by kernel_rfl) (by kernel_rfl)
theorem en_show_may_1 : qW Tryz.prog 230 := qD Tryz.func230 (by kernel_rfl) (by kernel_rfl)
theorem en_term_Flat : qW Tryz.prog 231 := qD Tryz.func231 (by kernel_rfl) (by kernel_rfl)
theorem qde : qW Tryz.prog 232 := qD Tryz.func232 (by kernel_rfl) (by kernel_rfl)
theorem en_term_word : qW Tryz.prog 233 := qD Tryz.func233 (by kernel_rfl) (by kernel_rfl)
theorem en_term_great : qW Tryz.prog 234 := qD Tryz.func234 (by kernel_rfl) (by kernel_rfl)
theorem qce : qW Tryz.prog 235 := qD Tryz.func235 (by kernel_rfl) (by kernel_rfl)
theorem en_bind_find_1 : qW Tryz.prog 236 := qD Tryz.func236 (by kernel_rfl) (by kernel_rfl)
theorem qdX : qW Tryz.prog 237 := qD Tryz.func237 (by kernel_rfl) (by kernel_rfl)
theorem qdY : qW Tryz.prog 238 := qD Tryz.func238 (by kernel_rfl) (by kernel_rfl)
theorem en_term_Note : qW Tryz.prog 239 := qD Tryz.func239 (by kernel_rfl) (by kernel_rfl)
theorem en_slices_Sorted_string : qW Tryz.prog 240 := qD Tryz.func240 (by kernel_rfl) (by kernel_rfl)
theorem qc4 : qW Tryz.prog 241 := qD Tryz.func241 (by kernel_rfl) (by kernel_rfl)
theorem en_slices_IndexFunc_int_int : qW Tryz.prog 242 := qD Tryz.func242 (by kernel_rfl) (by kernel_rfl)
theorem en_cmp_isNaN_int : qW Tryz.prog 243 := qD Tryz.func243 (by kernel_rfl) (by kernel_rfl)
theorem qbQ : qW Tryz.prog 254 := qD Tryz.func254 (by kernel_rfl) (by kernel_rfl)
theorem en_almagestref1_Depth : qW Tryz.prog 264 := qD Tryz.func264 (by kernel_rfl) (by kernel_rfl)
theorem en_term_small : qW Tryz.prog 273 := qD Tryz.func273 (by kernel_rfl) (by kernel_rfl)
theorem qds : qW Tryz.prog 274 := qD Tryz.func274 (by kernel_rfl) (by kernel_rfl)
theorem en_span_Rel : qW Tryz.prog 275 := qD Tryz.func275 (by kernel_rfl) (by kernel_rfl)
theorem qcM : qW Tryz.prog 276 := qD Tryz.func276 (by kernel_rfl) (by kernel_rfl)
theorem qdo : qW Tryz.prog 277 := qD Tryz.func277 (by kernel_rfl) (by kernel_rfl)
theorem en_term_deep : qW Tryz.prog 278 := qD Tryz.func278 (by kernel_rfl) (by kernel_rfl)
theorem en_term_Inner : qW Tryz.prog 279 := qD Tryz.func279 (by kernel_rfl) (by kernel_rfl)
theorem qdZ : qW Tryz.prog 280 := qD Tryz.func280 (by kernel_rfl) (by kernel_rfl)
theorem en_term_digit : qW Tryz.prog 313 := qD Tryz.func313 (by kernel_rfl) (by kernel_rfl)
theorem mixed : Tryz.prog.follows .mixedOrders = true := by kernel_rfl
end Go.Proofs.YtpgceiijoedppaaGreat

set_option maxRecDepth 8000
namespace Go.Proofs.YtpgceiijoedppaaGreat
open Go Go.RowKit
theorem Tm.wfs_of : ∀ {l : List Tm}, (∀ t, t ∈ l → t.wf) → Tm.wfs l
 | [], _ => trivial
 | t :: l, h => ⟨(Tm.wf0_iff t).2 (h t (by simp)), Tm.wfs_of fun u hu => h u (by simp [hu])⟩
theorem rdr_tm (w : World) : ∀ n : Nat, Rdr Tryz.prog w n 34 4 tmD Tm.wf := by
  intro n
  induction n using Nat.strongRecOn with
  | _ n ih =>
    refine Rdr.map (fun x : Int × ByteArray × Int × List Tm × Unit => ⟨x.1, x.2.1, x.2.2.1, x.2.2.2.1⟩) (Rdr.struct st_api_Term (fun _ => rfl) fun m hm => RdrF.cons (Rdr.int ul_int) (RdrF.cons (Rdr.str qbG) (RdrF.cons (Rdr.int ul_int) (RdrF.cons (Rdr.slice qI zD fun k hk => ih k (by omega)) RdrF.nil)))) tmD_length ?_ ?_
    · rintro ⟨a, b, c, l, _⟩ _
      simp only [tmD, qdh]; rfl
    · rintro ⟨a, b, c, l, _⟩ ⟨h1, h2, h3, ⟨h4, h5⟩, _⟩
      rw [by_api_Term] at h4
      exact ⟨h1, h2, h3, h4, Tm.wfs_of h5⟩
theorem qdU {α : Type} {l : List α} {k : Nat} (h : l.length * k ≤ 140737488351232) (hk : 0 < k) : qba l := Nat.le_trans (Nat.le_mul_of_pos_right _ hk) h
theorem rdr_tms (w : World) (n : Nat) : Rdr Tryz.prog w n 27 1 (fun l : List Tm => [.sl 4 (tmDs l)]) (fun l => qba l ∧ Tm.wfs l) := by
 refine Rdr.map id (Rdr.slice qI zD fun k _ => rdr_tm w k) (fun _ => rfl) ?_ ?_
 ·intro l _; simp only [id, qdh]
 ·rintro l ⟨h1, h2⟩
  rw [by_api_Term] at h1
  exact ⟨qdU h1 zD, Tm.wfs_of h2⟩
theorem rdr_gd (w : World) (n : Nat) : Rdr Tryz.prog w n 87 9 gdD Gd.wf := by
 refine Rdr.map (fun x : Int × Tm × Tm × Unit => ⟨x.1, x.2.1, x.2.2.1⟩) (Rdr.struct st_api_Guard (fun _ => rfl) fun m hm => RdrF.cons (Rdr.int ul_int) (RdrF.cons (rdr_tm w m) (RdrF.cons (rdr_tm w m) RdrF.nil))) (fun _ => rfl) ?_ ?_
 ·rintro ⟨a, b, c, _⟩ _; rfl
 ·rintro ⟨a, b, c, _⟩ ⟨h1, h2, h3, _⟩; exact ⟨h1, h2, h3⟩
theorem rdr_gds (w : World) (n : Nat) : Rdr Tryz.prog w n 37 1 (fun l : List Gd => [.sl 9 (gdDs l)]) (fun l => qba l ∧ ∀ g ∈ l, g.wf) := by
 refine Rdr.map id (Rdr.slice qa8 zD fun k _ => rdr_gd w k) (fun _ => rfl) (fun _ _ => rfl) ?_
 rintro l ⟨h1, h2⟩
 rw [by_api_Guard] at h1
 exact ⟨qdU h1 zD, h2⟩
theorem rdr_bd (w : World) (n : Nat) : Rdr Tryz.prog w n 143 5 bdD Bd.wf := by
 refine Rdr.map (fun x : ByteArray × Tm × Unit => ⟨x.1, x.2.1⟩) (Rdr.struct st_api_Bind (fun _ => rfl) fun m hm => RdrF.cons (Rdr.str qbG) (RdrF.cons (rdr_tm w m) RdrF.nil)) (fun _ => rfl) ?_ ?_
 ·rintro ⟨a, b, _⟩ _; rfl
 ·rintro ⟨a, b, _⟩ ⟨h1, h2, _⟩; exact ⟨h1, h2⟩
theorem rdr_bds (w : World) (n : Nat) : Rdr Tryz.prog w n 51 1 (fun l : List Bd => [.sl 5 (bdDs l)]) (fun l => qba l ∧ ∀ g ∈ l, g.wf) := by
 refine Rdr.map id (Rdr.slice qO zD fun k _ => rdr_bd w k) (fun _ => rfl) (fun _ _ => rfl) ?_
 rintro l ⟨h1, h2⟩
 rw [by_api_Bind] at h1
 exact ⟨qdU h1 zD, h2⟩
end Go.Proofs.YtpgceiijoedppaaGreat

set_option linter.unusedSimpArgs false
namespace Go.Proofs.YtpgceiijoedppaaGreat
open Go
def wgtL {α : Type} (f : α → Int) : Int → List α → Int
 | n, [] => n
 | n, a :: l => if n < 1048576 then wgtL f (n + f a) l else n
def wgt : Nat → Tm → Int
 | 0, _ => 1048576
 | d + 1, t => wgtL (wgt d) (1 + t.name.size) t.args
theorem wgtL_ge {α : Type} (f : α → Int) (h : ∀ t, 0 ≤ f t) : ∀ (n : Int) (l : List α), 0 ≤ n → n ≤ wgtL f n l
  | n, [], h0 => by simp [wgtL]
  | n, a :: l, h0 => by
    simp only [wgtL]
    split
    · have := wgtL_ge f h (n + f a) l (by have := h a; omega)
      have := h a; omega
    · omega
theorem wgt_ge : ∀ (d : Nat) (t : Tm), 0 ≤ wgt d t
  | 0, _ => by simp [wgt]
  | d + 1, t => by
    simp only [wgt]
    have := wgtL_ge _ (wgt_ge d) (1 + t.name.size) t.args (by omega)
    omega
theorem qdH {α : Type} (f : α → Int) (B : Int) (hB : 0 ≤ B) : ∀ (n : Int) (l : List α), (∀ t ∈ l, f t ≤ B) → n ≤ 140737488351233 + B → wgtL f n l ≤ 140737488351233 + B
  | n, [], _, h0 => h0
  | n, a :: l, h, h0 => by
    simp only [wgtL]
    split
    · exact qdH f B hB _ l (fun t ht => h t (by simp [ht])) (by have := h a (by simp); omega)
    · exact h0
theorem wgt_le : ∀ (d : Nat) (t : Tm), t.wf → wgt d t ≤ 140737488351233 * (d + 1)
  | 0, t, _ => by simp [wgt]
  | d + 1, t, h => by
    simp only [wgt]
    have := qdH (wgt d) (140737488351233 * (d + 1)) (by omega) (1 + t.name.size) t.args (fun u hu => by
      obtain ⟨i, hi⟩ := List.getElem?_of_mem hu
      exact wgt_le d u (Tm.wfs_get h.2.2.2.2 hi)) (by have := h.2.1; omega)
    push_cast at this ⊢
    omega
theorem qc6 {α : Type} (f : α → Int) (n : Int) (l : List α) (h : ¬ n < 1048576) : wgtL f n l = n := by
 cases l with
 | nil => rfl
 | cons a l => simp [wgtL, h]
theorem qcO {α : Type} (f : α → Int) (n : Int) (l : List α) (k : Nat) (hk : k ≤ l.length) (h : ∀ j, j < k → wgtL f n (l.take j) < 1048576) : wgtL f n l = wgtL f (wgtL f n (l.take k)) (l.drop k) := by
  induction k generalizing n l with
  | zero => simp [wgtL]
  | succ k ih =>
    cases l with
    | nil => simp at hk
    | cons a l =>
      have h0 : n < 1048576 := by have := h 0 (by omega); simpa [wgtL] using this
      simp only [List.take_succ_cons, List.drop_succ_cons, wgtL, if_pos h0]
      refine ih _ l (by simpa using hk) fun j hj => ?_
      have := h (j + 1) (by omega)
      simpa [wgtL, h0] using this
theorem qc7 {α : Type} (f : α → Int) (n : Int) (l : List α) (a : α) (h : ∀ j, j ≤ l.length → wgtL f n (l.take j) < 1048576) : wgtL f n (l ++ [a]) = wgtL f n l + f a := by
 have h1 := qcO f n (l ++ [a]) l.length (by simp) (fun j hj => by
  have := h j (by omega)
  rwa [List.take_append_of_le_length (by omega)])
 have h2 := h l.length (Nat.le_refl _)
 simp only [List.take_length] at h2
 simp only [List.take_left, List.drop_left] at h1
 rw [h1]
 simp [wgtL, h2]
theorem qac {α : Type} {l : List α} {k : Nat} {a : α} (h : l[k]? = some a) : l.take (k + 1) = l.take k ++ [a] := by
 rw [List.take_add_one, h]; rfl
theorem qH {α : Type} {l : List α} {k : Nat} (h : k < l.length) : ∃ a, l[k]? = some a := ⟨l[k], by simp [h]⟩
set_option maxRecDepth 4000 in
theorem TermWeight_ok : ∀ (d : Nat), d ≤ 30 → ∀ (e : Int), e = d → ∀ t : Tm, t.wf → AC Tryz.prog 93 [tmA false t, .imm (.int .i64 e)] [] (fun r O => r = .imm (.int .i64 (wgt d t)) ∧ O = []) := by
  intro d
  induction d with
  | zero =>
    intro hd e he t ht
    have hnm := ht.2.1
    have hal := ht.2.2.2.1
    have hlen := qaJ t.args
    refine qF Tryz.func93 E Tryz.ntmps93 zL fun c hL hQ hDD => (qd (qb (qy E E zD (qaa 2 E E E) E (zX E (zK (qd ?_)))))); refine qb (zA E (qe E qav E) (zA E (ql E qaf E E E E E) ?_))
    refine zA E (qc9 E qbG E) (zA E (qJ E E E (by omega)) (zX E (zK (qd (qd (qb ?_)))))); refine zX E (zA E (qj E E E E) (zK (qq E (fun c0 => ?_) (fun c0 => ?_))))
    · try simp only[↓cqA,cqB]at c0
      refine qd (qb (zX E (zK (qo (qm (zI hL (qh E qi) ?_ ?_))))))
      · rfl
      exact ⟨rfl, rfl⟩
    try simp only[↓cqA,cqB]at c0
    omega
  | succ d ih =>
    intro hd e he t ht
    have hnm := ht.2.1
    have hal := ht.2.2.2.1
    have hlen := qaJ t.args
    refine qF Tryz.func93 E Tryz.ntmps93 zL fun c hL hQ hDD => (qd (qb (qy E E zD (qaa 2 E E E) E (zX E (zK (qd ?_)))))); refine qb (zA E (qe E qav E) (zA E (ql E qaf E E E E E) ?_))
    refine zA E (qc9 E qbG E) (zA E (qJ E E E (by omega)) (zX E (zK (qd (qd (qb ?_)))))); refine zX E (zA E (qj E E E E) (zK (qq E (fun c0 => ?_) (fun c0 => ?_))))
    · try simp only[↓cqA,cqB]at c0
      omega
    try simp only[↓cqA,cqB]at c0
    refine qr (qa (qd (qd (qb (zX E (zK ?_)))))); refine qv (q6 (t.args.length) (fun k => k ≤ t.args.length ∧ ∀ j, j < k → wgtL (wgt d) (1 + t.name.size) (t.args.take j) < 1048576) (fun k => ⟨[(1, .imm (.int .i64 e)), (2, .ptr 2 0), (5, .imm (.int .i64 (wgtL (wgt d) (1 + t.name.size) (t.args.take k)))), (6, .imm (.int .i64 (k : Int)))], [(2, .box (lift false (tmD t)))]⟩) (⟨by omega, fun j hj => absurd hj (by omega)⟩) ?_ (fun k hk hp => ?_))
    · exact zR hL (zC E (zC E (SubT.cons (qan E (by simp [wgtL])) (zC rfl SubT.nil)))) (SubO.cons (qR rfl (by rfl)) SubO.nil)
    have hw : wgtL (wgt d) (1 + t.name.size) (t.args.take k) ≤ 140737488351233 + 140737488351233 * (d + 1) := qdH (wgt d) _ (by omega) _ _ (fun u hu => wgt_le d u (by
      obtain ⟨i, hi⟩ := List.getElem?_of_mem (List.mem_of_mem_take hu)
      exact Tm.wfs_get ht.2.2.2.2 hi)) (by omega)
    have hw0 := wgtL_ge (wgt d) (wgt_ge d) (1 + t.name.size) (t.args.take k) (by omega)
    refine qd (qd (qb (zX E (zA E (qe E q8 E) (zA E (ql E q7 E E E E E) (zA E (qu E qI E) (zA E (qj E E E E) ?_))))))); refine zX E (qt 18 E (fun g18 => ?_) (fun g18 => ?_))
    · try simp only[↓cqA,cqB]at g18
      obtain ⟨u, hu⟩ := qH (l := t.args) (k := k) (by omega)
      have huw := wgt_le d u (Tm.wfs_get ht.2.2.2.2 hu)
      have huw0 := wgt_ge d u
      refine zZ E (qk (.inl E) E) (zZ E (qj E E E E) (zA E (qg E E E) (zK (qq E (fun c1 => ?_) (fun c1 => ?_)))))
      · try simp only[↓cqA,cqB]at c1
        refine qr (qa (qd (qv (qb (zX E (zA E (qe E q8 E) (zA E (ql E q7 E E E E E) ?_))))))); refine zX E (zA E (qp E qI E E (by omega) (qbv hu)) (zA E (qC E qw E E) (zX E (zA E (qa0 E E E (by omega)) (qE (avs := [_, _]) true E E E zD qaI E E (ih (by omega) _ (by omega) u (Tm.wfs_get ht.2.2.2.2 hu)) E E (zA E (qJ E E E (by omega)) ?_))))))
        refine zX E (qc (qP (qa (qb (zX E (zA E (qJ E E E (by omega)) (zX E ?_))))))); refine qc ?_
        have hb := qc7 (wgt d) (1 + t.name.size) (t.args.take k) u (fun j hj => by
          by_cases hjk : j < k
          · have := hp.2 j hjk; rwa [List.take_take, Nat.min_eq_left (by omega)]
          · rw [List.take_of_length_le (by simp; omega)]; omega)
        rw [← qac hu] at hb
        refine qa ?_; refine ⟨?_, ?_, ?_⟩
        · omega
        · refine ⟨by omega, fun j hj => ?_⟩
          by_cases hjk : j < k
          · exact hp.2 j hjk
          · rw [show j = k by omega]; omega
        exact zR hL (zC E (zC E (SubT.cons (qan E (by exact qL hb.symm)) (zC E SubT.nil)))) (SubO.cons (qR E (by rfl)) SubO.nil)
      try simp only[↓cqA,cqB]at c1
      refine qQ (qn (qn (qX ?_))); refine qa (qd (qb (zX E (zX E (zK (qo (zI hL (qh E qi) ?_ ?_)))))))
      · rfl
      refine ⟨qa2 ?_, rfl⟩
      rw [wgt]; exact ((qcO (wgt d) _ _ k hp.1 hp.2).trans (qc6 _ _ _ (by omega))).symm
    try simp only[↓cqA,cqB]at g18
    refine zY E (zY E (zA E (qg E E E) (zK (qab E (qQ (qn (qn (qX ?_)))))))); refine qa (qd (qb (zX E (zX E (zK (qo (zI hL (qh E qi) ?_ ?_)))))))
    · rfl
    refine ⟨qa2 ?_, rfl⟩
    rw [wgt, List.take_of_length_le (by omega)]
abbrev PF (f : FuncId) (args : List AV) (v : AV) : Prop := AC Tryz.prog f args [] (fun r O => r = v ∧ O = [])
abbrev PFm (f : FuncId) (args : List AV) (v : AV) : Prop := ACx true Tryz.prog f args [] (fun r O => r = v ∧ O = [])
abbrev bv (b : Bool) : AV := .imm (.bool b)
abbrev iv (n : Int) : AV := .imm (.int .i64 n)
abbrev uv (n : Int) : AV := .imm (.int .u8 n)
abbrev sv (s : ByteArray) : AV := .imm (.string s)
def digB (x : Int) : Bool := decide (48 ≤ x ∧ x ≤ 57)
def qcn (x : Int) : Bool := decide (97 ≤ x ∧ x ≤ 122)
def qcr (x : Int) : Bool := decide (65 ≤ x ∧ x ≤ 90)
def qbl (x : Int) : Bool := qcn x || qcr x || digB x || decide (x = 95)
def numB (x : Int) : Bool := decide (-1073741824 ≤ x ∧ x ≤ 1073741824)
theorem digit_ok (x : Int) : PF 313 [uv x] (bv (digB x)) := by
 refine qF Tryz.func313 E Tryz.ntmps313 zL fun c hL hQ hDD => (qd (qb (zX E (zK (qd (qb ?_)))))); refine zX E (zA E (qj E E E E) (zX E (qt 5 E (fun g5 => ?_) (fun g5 => ?_))))
 ·try simp only[↓cqA,cqB]at g5
  refine zZ E (qk (.inl E) E) (zZ E (qj E E E E) (zA E (qg E E E) (zX E (zK (qo (zI hL (qh E qi) ?_ ?_))))))
  ·rfl
  refine ⟨qT ?_, rfl⟩
  rw [Bool.eq_iff_iff]; simp [digB]; try omega
 try simp only[↓cqA,cqB]at g5
 refine zY E (zY E (zA E (qg E E E) (zX E (zK (qo (zI hL (qh E qi) ?_ ?_))))))
 ·rfl
 refine ⟨qT ?_, rfl⟩
 rw [Bool.eq_iff_iff]; simp [digB]; try omega
theorem small_ok (x : Int) : PF 273 [uv x] (bv (qcn x)) := by
 refine qF Tryz.func273 E Tryz.ntmps273 zL fun c hL hQ hDD => (qd (qb (zX E (zK (qd (qb ?_)))))); refine zX E (zA E (qj E E E E) (zX E (qt 5 E (fun g5 => ?_) (fun g5 => ?_))))
 ·try simp only[↓cqA,cqB]at g5
  refine zZ E (qk (.inl E) E) (zZ E (qj E E E E) (zA E (qg E E E) (zX E (zK (qo (zI hL (qh E qi) ?_ ?_))))))
  ·rfl
  refine ⟨qT ?_, rfl⟩
  rw [Bool.eq_iff_iff]; simp [qcn]; try omega
 try simp only[↓cqA,cqB]at g5
 refine zY E (zY E (zA E (qg E E E) (zX E (zK (qo (zI hL (qh E qi) ?_ ?_))))))
 ·rfl
 refine ⟨qT ?_, rfl⟩
 rw [Bool.eq_iff_iff]; simp [qcn]; try omega
theorem great_ok (x : Int) : PF 234 [uv x] (bv (qcr x)) := by
 refine qF Tryz.func234 E Tryz.ntmps234 zL fun c hL hQ hDD => (qd (qb (zX E (zK (qd (qb ?_)))))); refine zX E (zA E (qj E E E E) (zX E (qt 5 E (fun g5 => ?_) (fun g5 => ?_))))
 ·try simp only[↓cqA,cqB]at g5
  refine zZ E (qk (.inl E) E) (zZ E (qj E E E E) (zA E (qg E E E) (zX E (zK (qo (zI hL (qh E qi) ?_ ?_))))))
  ·rfl
  refine ⟨qT ?_, rfl⟩
  rw [Bool.eq_iff_iff]; simp [qcr]; try omega
 try simp only[↓cqA,cqB]at g5
 refine zY E (zY E (zA E (qg E E E) (zX E (zK (qo (zI hL (qh E qi) ?_ ?_))))))
 ·rfl
 refine ⟨qT ?_, rfl⟩
 rw [Bool.eq_iff_iff]; simp [qcr]; try omega
theorem Number_ok (x : Int) : PF 223 [iv x] (bv (numB x)) := by
 refine qF Tryz.func223 E Tryz.ntmps223 zL fun c hL hQ hDD => (qd (qb (zX E (zK (qd (qb ?_)))))); refine zX E (zA E (qj E E E E) (zX E (qt 5 E (fun g5 => ?_) (fun g5 => ?_))))
 ·try simp only[↓cqA,cqB]at g5
  refine zZ E (qk (.inl E) E) (zZ E (qj E E E E) (zA E (qg E E E) (zX E (zK (qo (zI hL (qh E qi) ?_ ?_))))))
  ·rfl
  refine ⟨qT ?_, rfl⟩
  rw [Bool.eq_iff_iff]; simp [numB]; try omega
 try simp only[↓cqA,cqB]at g5
 refine zY E (zY E (zA E (qg E E E) (zX E (zK (qo (zI hL (qh E qi) ?_ ?_))))))
 ·rfl
 refine ⟨qT ?_, rfl⟩
 rw [Bool.eq_iff_iff]; simp [numB]; try omega
theorem Inner_ok (x : Int) : PF 279 [uv x] (bv (qbl x)) := by
 refine qF Tryz.func279 E Tryz.ntmps279 zL fun c hL hQ hDD => (qd (qb (zX E (zK (qd (qb ?_)))))); refine zX E (qE (avs := [_]) true E E E zD en_term_small E E (small_ok _) E E (zX E (qt 5 E (fun g5 => ?_) (fun g5 => ?_))))
 ·try simp only[↓cqA,cqB]at g5
  refine zY E (zY E (zA E (qg E E E) (zX E (zY E (zY E ?_)))))
  refine zA E (qg E E E) (zX E (zY E (zY E (zA E (qg E E E) (zX E (zK ?_)))))); refine qo (zI hL (qh E qi) ?_ ?_)
  ·rfl
  refine ⟨qT ?_, rfl⟩
  simp_all [qbl]; try rfl
 try simp only[↓cqA,cqB]at g5
 refine zZ E (qk (.inl E) E) (zZ E (qY (avs := [_]) true E en_term_great E E (great_ok _) (fun _ => rfl) E) (zA E (qg E E E) (zX E (qt 9 E (fun g9 => ?_) (fun g9 => ?_)))))
 ·try simp only[↓cqA,cqB]at g9
  refine zY E (zY E (zA E (qg E E E) (zX E (zY E (zY E (zA E (qg E E E) (zX E ?_))))))); refine zK (qo (zI hL (qh E qi) ?_ ?_))
  ·rfl
  refine ⟨qT ?_, rfl⟩
  simp_all [qbl]; try rfl
 try simp only[↓cqA,cqB]at g9
 refine zZ E (qk (.inl E) E) (zZ E (qY (avs := [_]) true E en_term_digit E E (digit_ok _) (fun _ => rfl) E) (zA E (qg E E E) (zX E (qt 13 E (fun g13 => ?_) (fun g13 => ?_)))))
 ·try simp only[↓cqA,cqB]at g13
  refine zY E (zY E (zA E (qg E E E) (zX E (zK (qo (zI hL (qh E qi) ?_ ?_))))))
  ·rfl
  refine ⟨qT ?_, rfl⟩
  simp_all [qbl]; try rfl
 try simp only[↓cqA,cqB]at g13
 refine zZ E (qk (.inl E) E) (zZ E (qj E E E E) (zA E (qg E E E) (zX E (zK (qo (zI hL (qh E qi) ?_ ?_))))))
 ·rfl
 refine ⟨qT ?_, rfl⟩
 simp_all [qbl]; try rfl
def wordB (p : Int → Bool) (s : ByteArray) : Bool := decide (s.size ≠ 0) && decide (s.size ≤ 16) && p (qcT s 0) && (List.range s.size).all (fun i => qbl (qcT s i))
def nameB (s : ByteArray) : Bool := wordB qcn s
def varB (s : ByteArray) : Bool := wordB qcr s
theorem word_ok (s : ByteArray) (p : Int → Bool) (g : FuncId) (hen : qW Tryz.prog g) (hg : ∀ x, PF g [uv x] (bv (p x))) : PF 233 [sv s, .fn g []] (bv (wordB p s)) := by
 refine qF Tryz.func233 E Tryz.ntmps233 zL fun c hL hQ hDD => (qd (qb (zX E (zK (qd (qd ?_)))))); refine qb (zX E (zA E (qbV E E E E) (zX E (qt 8 E (fun g8 => ?_) (fun g8 => ?_)))))
 ·try simp only[↓cqA,cqB]at g8
  refine zY E (zY E (zY E (zA E (qg E E E) (zX E (zY E ?_)))))
  refine zY E (zY E (zY E (zY E (zA E (qg E E E) (zK (qaN E ?_)))))); refine qd (qb (zX E (zK (qo (qm (zI hL (qh E qi) ?_ ?_))))))
  ·rfl
  refine ⟨qT ?_, rfl⟩
  simp [wordB, size_zero.2 g8]
 try simp only[↓cqA,cqB]at g8
 have h0 : s.size ≠ 0 := mt size_zero.1 g8
 refine zZ E (qk (.inl E) E) (zZ E (qc9 E qbG E) (zZ E (qj E E E E) (zA E (qg E E E) (zX E (qt 13 E (fun g13 => ?_) (fun g13 => ?_))))))
 ·try simp only[↓cqA,cqB]at g13
  refine zY E (zY E (zY E (zY E (zY E (zA E (qg E E E) ?_)))))
  refine zK (qaN E (qd (qb (zX E (zK ?_))))); refine qo (qm (zI hL (qh E qi) ?_ ?_))
  ·rfl
  refine ⟨qT ?_, rfl⟩
  simp [wordB]; omega
 try simp only[↓cqA,cqB]at g13
 refine zZ E (qk (.inl E) E) (zZ E (qk (.inl E) E) (zZ E (qdR E qbG E E zD (by omega)) (zZ E (qY (avs := [_]) true E hen E E (hg _) (fun _ => rfl) E) (zZ E (qal E E) (zA E (qg E E E) (zK (qq E (fun c0 => ?_) (fun c0 => ?_))))))))
 ·try simp only[↓cqA,cqB]at c0
  refine qd (qb (zX E (zK (qo (qm (zI hL (qh E qi) ?_ ?_))))))
  ·rfl
  refine ⟨qT ?_, rfl⟩
  simp [wordB, c0]
 try simp only[↓cqA,cqB]at c0
 refine qr (qa (qd (qd (qb (zX E (zA E (qc9 E qbG E) (zX E ?_))))))); refine zK (qv (q6 (s.size) (fun k => k ≤ s.size ∧ ∀ j, j < k → qbl (qcT s j) = true) (fun k => ⟨[(0, .imm (.string s)), (21, iv s.size), (22, iv (k : Int))], []⟩) (⟨by omega, fun j hj => absurd hj (by omega)⟩) ?_ (fun k hk hp => ?_)))
 ·exact zR hL (zC E (zC E (zC E SubT.nil))) SubO.nil
 refine qd (qb (zA E (qj E E E E) (zK (qd (qq E (fun c1 => ?_) (fun c1 => ?_))))))
 ·try simp only[↓cqA,cqB]at c1
  refine qr (qa (qd (qv (qd (qb (zX E (zX E ?_))))))); refine zK (qd (qb (zX E (zX E (zA E (qdR E qbG E E (by omega) (by omega)) (qE (avs := [_]) true E E E zD en_term_Inner E E (Inner_ok _) E E (zA E (qal E E) (zK (qq E (fun c2 => ?_) (fun c2 => ?_))))))))))
  ·try simp only[↓cqA,cqB]at c2
   refine qd (qb (zX E (zK (qo (qS (qm (qm (qS (qm (zI hL (qh E qi) ?_ ?_))))))))))
   ·rfl
   refine ⟨qT ?_, rfl⟩
   symm; simp only [wordB, Bool.and_eq_false_iff]; right
   rw [List.all_eq_false]; exact ⟨k, by simp; omega, by simp [c2]⟩
  try simp only[↓cqA,cqB]at c2
  refine qr (qP (qa (qb (zA E (qJ E E E (by omega)) (zX E (zK ?_)))))); refine ⟨?_, ?_, ?_⟩
  ·omega
  ·refine ⟨by omega, fun j hj => ?_⟩
   by_cases hjk : j < k
   ·exact hp.2 j hjk
   ·rw [show j = k by omega]; exact c2
  exact zR hL (zC E (zC E (zC E SubT.nil))) SubO.nil
 try simp only[↓cqA,cqB]at c1
 refine qQ (qn (qn (qX ?_))); refine qa (qd (qb (zX E (zK (qo (zI hL (qh E qi) ?_ ?_))))))
 ·rfl
 refine ⟨qT ?_, rfl⟩
 symm; simp only [wordB, Bool.and_eq_true, decide_eq_true_eq, List.all_eq_true, List.mem_range]
 exact ⟨⟨⟨h0, by omega⟩, c0⟩, fun j hj => hp.2 j (by omega)⟩
theorem Name_ok (s : ByteArray) : PF 225 [sv s] (bv (nameB s)) := by
 refine qF Tryz.func225 E Tryz.ntmps225 zL fun c hL hQ hDD => (qd (qb (zX E (zK (qd (qb ?_)))))); refine zX E (qE (avs := [_, _]) true E E E zD en_term_word E E (word_ok s qcn _ en_term_small small_ok) E E (zX E (zK (qo (zI hL (qh E qi) ?_ ?_)))))
 ·rfl
 exact ⟨rfl, rfl⟩
theorem Var_ok (s : ByteArray) : PF 172 [sv s] (bv (varB s)) := by
 refine qF Tryz.func172 E Tryz.ntmps172 zL fun c hL hQ hDD => (qd (qb (zX E (zK (qd (qb ?_)))))); refine zX E (qE (avs := [_, _]) true E E E zD en_term_word E E (word_ok s qcr _ en_term_great great_ok) E E (zX E (zK (qo (zI hL (qh E qi) ?_ ?_)))))
 ·rfl
 exact ⟨rfl, rfl⟩
end Go.Proofs.YtpgceiijoedppaaGreat

namespace Go.Proofs.YtpgceiijoedppaaGreat
open Go Go.RowKit
theorem top_calls {f : FuncId} {ds : List D} {w : World} {cs : Array Value} (h : PF f [.agg (lift false ds)] (bv true)) (hr : qdy w (Here w) ds cs.toList) : Calls Tryz.prog f #[.agg cs] w fun e w' => e = .returned (.bool true) ∧ Below w.heap.size w w' := by
 let c : Ctx := ⟨w, fun _ => False, Here w, fun _ => undef, fun _ => False, fun _ => False, False, fun _ => False⟩
 let S : Bool → Nat → Prop := fun f b => f = false ∧ b < w.heap.size
 have e0 : (fun b => S false b) = Here w := funext fun b => propext ⟨fun h => h.2, fun h => ⟨rfl, h⟩⟩
 have e1 : S false = Here w := e0
 obtain ⟨h1, h2⟩ := qdy.rep (w := w) (ρ := fun _ => undef) (S := S) (U := St.U ⟨argT 0 [.agg (lift false ds)], []⟩) (ds := ds) (vs := cs.toList) (by rw [e1]; exact hr)
 have hrep : Rep w (fun _ => undef) S (St.U ⟨argT 0 [.agg (lift false ds)], []⟩) (.agg (lift false ds)) (.agg cs) := by
  simp only [Rep]
  exact ⟨cs.toList, by simp, h2, h1⟩
 have hc : Conc c 1 ⟨argT 0 [.agg (lift false ds)], []⟩ ⟨#[.agg cs], []⟩ w (fun _ => undef) S := by
  refine ⟨rfl, rfl, fun t v ht => ?_, fun l o hl => (by simp [ok] at hl), fun l l' o o' b hl => (by simp [ok] at hl), fun l o b f hl => (by simp [ok] at hl), fun l o b hl => (by simp [ok] at hl), fun l o b hl => (by simp [ok] at hl), fun b hb => (by cases hb.1.1), fun f b hb => hb.2, fun b hb => (by cases hb.1), fun b hb => .inl hb.2, fun l hl => hl.elim, Fm.start (c := c) (fun _ h => h.elim) (fun _ h => h.elim) (fun b h => (by cases h.1))⟩
  simp only [argT, qcd] at ht
  split at ht
  ·rename_i e; subst e; simp only [Option.some.injEq] at ht; subst ht; exact hrep
  ·simp [lk] at ht
 refine (h c w [.agg cs] (fun _ => undef) S E (fun l => ⟨fun h => h.elim, fun h => by simp [inD, ok] at h⟩) ⟨fun b hb => (by cases hb.1), fun b h => h⟩ ⟨⟨fun h => h.elim⟩⟩ hc).mono ?_
 rintro e w' ⟨v, r, O', rfl, ⟨rfl, rfl⟩, ρ', S', hc'⟩
 have hv := hc'.T 0 _ E
 simp only [Rep] at hv
 have hv' : v = .bool true := by simpa using hv
 subst hv'
 have hf := hc'.fm
 exact ⟨rfl, hf.os, hf.tape, hf.output, hf.size, fun b hb => hf.block b hb (fun h => h)⟩
theorem own : ownKnob Tryz.prog.godebug = none := by kernel_rfl
theorem and2 {a b : Bool} (h : a = true) (k : b = true) : (a && b) = true := by rw [h, k]; rfl
theorem laidOut : laidOutB Tryz.prog = true := by kernel_rfl
theorem mapsRowed_ok : mapsRowed Tryz.prog = true := by kernel_rfl
theorem stopsHeard_ok : Tryz.prog.stopsHeard = true := by kernel_rfl
theorem mayEnter_ok : Tryz.prog.mayEnter = true := by kernel_rfl
end Go.Proofs.YtpgceiijoedppaaGreat

namespace Go.Proofs.YtpgceiijoedppaaGreat
open Go
structure Thread (B : Bool) (caps : List AV) (Os : Nat → List (Nat × Ob)) : Prop where
 dom : ∀ k l, inD (Os k) l = inD (Os 0) l
 pass : ∀ k, PassO B (Os k) (Os k)
 cvs : ∀ k, AV.cvs B (Os k) (inD (Os k)) caps = caps
 cvs0 : ∀ k, AV.cvs B (Os k) (inD (Os k)) caps = caps
 all : ∀ k, AV.allLs (inD (Os k)) caps = true
 self : ∀ k, allO (inD (Os k)) (Os k) = true
 q : B = true → ∀ k, allOQ (fun f => f) (Os k) = true
theorem Thread.nil (B : Bool) (caps : List AV) (h : AV.cvs B [] (inD []) caps = caps) (k : AV.allLs (inD []) caps = true) : Thread B caps (fun _ => []) where
 dom _ _ := rfl
 pass _ := PassO.nil
 cvs _ := h
 cvs0 _ := h
 all _ := k
 self _ := rfl
 q _ _ := rfl
theorem IndexFunc_tm_ok (B : Bool) (ts : List Tm) (es : List (List D)) (hes : es = ts.map tmD) (hlen : ts.length ≤ 140737488351232) (g : FuncId) (caps : List AV) (hen : qW Tryz.prog g) (Os : Nat → List (Nat × Ob)) (p : Nat → Bool) (hO : Thread B caps Os)
  (hstep : ∀ k u, ts[k]? = some u → (∀ j, j < k → p j = false) → AC Tryz.prog g (tmA false u :: caps) (Os k) (fun r O => r = bv (p k) ∧ O = Os (k + 1))) :
  AC Tryz.prog 274 [.dat false 4 es, .fn g caps] (Os 0) (fun r O => ∃ m n i, m ≤ ts.length ∧ (∀ j, j < m → p j = false) ∧ ((m < ts.length ∧ p m = true ∧ i = (m : Int) ∧ n = m + 1) ∨ (m = ts.length ∧ i = -1 ∧ n = m)) ∧ r = iv i ∧ O = Os n) := by
 have hl : es.length = ts.length := by rw [hes, List.length_map]
 refine qF Tryz.func274 E Tryz.ntmps274 zL fun c hL hQ hDD => (qd (qb (zX E (zK (qd (qd ?_)))))); refine qb (zX E (zA E (qu E qI E) (zX E (zK (qv (q6 (ts.length) (fun k => k ≤ ts.length ∧ ∀ j, j < k → p j = false) (fun k => ⟨[(0, .dat false 4 es), (1, .fn g caps), (7, iv es.length), (8, iv (k : Int))], Os k⟩) (⟨by omega, fun j hj => absurd hj (by omega)⟩) ?_ (fun k hk hp => ?_)))))))
 ·exact qB (zC E (zC E (zC E (zC E SubT.nil)))) (fun _ _ h => h) (by simp [allT, AV.allL, hO.all]) (hO.self _) (fun l hl => by rw [hO.dom]; exact (hL l).1 hl)
 refine qd (qb (zA E (qj E E E E) (zK (qd (qq E (fun c0 => ?_) (fun c0 => ?_))))))
 ·try simp only[↓cqA,cqB]at c0
  obtain ⟨u, hu⟩ := qH (l := ts) (k := k) (by omega)
  refine qr (qa (qd (qv (qd (qb (zX E (zX E ?_))))))); refine zK (qd (qb (zX E (zX E (zX E ?_)))))
  refine zA E (qp E qI E E (by omega) (by rw [hes, List.getElem?_map]; exact congrArg (Option.map tmD) hu)) ?_; refine zA E (qC E qw E E) ?_; refine qaj (avs := [_]) B E E E zD hen E E (hstep k u hu hp.2) (by rw [List.cons_append, List.nil_append]; simp only [AV.cvs, hO.cvs]; rfl) (hO.pass k) (by rintro r O' ⟨_, rfl⟩ l hl; left; rw [hO.dom] at hl ⊢; exact hl) (by rintro hB r O' ⟨rfl, rfl⟩; exact ⟨rfl, hO.q hB _⟩) ?_
  rintro r O' ⟨rfl, rfl⟩
  refine zK (qq E (fun c1 => ?_) (fun c1 => ?_))
  ·try simp only[↓cqA,cqB]at c1
   refine qd (qb (zX E (zX E (zK (qo (qS (qm (qm (qS (qm ?_))))))))))
   change retQ _ _ _ _ _ _ _
   refine retO (.inl E) (qh E qi) SubO.left rfl (hO.self _) (fun l hl => by rw [hO.dom]; exact (hL l).1 hl) ?_
   exact ⟨k, _, _, by omega, hp.2, .inl ⟨by omega, c1, rfl, rfl⟩, rfl, rfl⟩
  try simp only[↓cqA,cqB]at c1
  refine qr (qP (qa (qb (zA E (qJ E E E (by omega)) (zX E (zK ?_)))))); refine ⟨?_, ?_, ?_⟩
  ·omega
  ·refine ⟨by omega, fun j hj => ?_⟩
   by_cases hjk : j < k
   ·exact hp.2 j hjk
   ·rw [show j = k by omega]; exact c1
  exact qB (zC E (zC E (zC E (zC E SubT.nil)))) (SubO.left) (by simp [allT, AV.allL, hO.all]) (hO.self _) (fun l hl => by rw [hO.dom]; exact (hL l).1 hl)
 try simp only[↓cqA,cqB]at c0
 refine qQ (qn (qn (qX ?_))); refine qa (qd (qb (zX E (zK (qo ?_)))))
 change retQ _ _ _ _ _ _ _
 refine retO (.inl E) (qh E qi) (fun _ _ h => h) E (hO.self _) (fun l hl => by rw [hO.dom]; exact (hL l).1 hl) ?_
 exact ⟨k, _, _, by omega, hp.2, .inr ⟨by omega, rfl, rfl⟩, rfl, rfl⟩
theorem ContainsFunc_tm_ok (B : Bool) (ts : List Tm) (es : List (List D)) (hes : es = ts.map tmD) (hlen : ts.length ≤ 140737488351232) (g : FuncId) (caps : List AV) (hen : qW Tryz.prog g) (Os : Nat → List (Nat × Ob)) (p : Nat → Bool) (hO : Thread B caps Os)
  (hstep : ∀ k u, ts[k]? = some u → (∀ j, j < k → p j = false) → AC Tryz.prog g (tmA false u :: caps) (Os k) (fun r O => r = bv (p k) ∧ O = Os (k + 1))) :
  AC Tryz.prog 226 [.dat false 4 es, .fn g caps] (Os 0) (fun r O => ∃ m n b, m ≤ ts.length ∧ (∀ j, j < m → p j = false) ∧ ((m < ts.length ∧ p m = true ∧ b = true ∧ n = m + 1) ∨ (m = ts.length ∧ b = false ∧ n = m)) ∧ r = bv b ∧ O = Os n) := by
 refine qF Tryz.func226 E Tryz.ntmps226 zL fun c hL hQ hDD => (qd (qb (zX E (zK (qd (qb ?_)))))); refine zX E (zX E ?_)
 refine qaj (avs := [_, _]) B E E E zD qds E E (IndexFunc_tm_ok B ts es hes hlen g caps hen Os p hO hstep) (by simp only [List.append_nil, AV.cvs, AV.cv, hO.cvs]; rfl) (hO.pass 0) (by rintro r O' ⟨m, n, i, _, _, _, _, rfl⟩ l hl; left; rw [hO.dom] at hl ⊢; exact hl) (by rintro hB r O' ⟨m, n, i, _, _, _, rfl, rfl⟩; exact ⟨rfl, hO.q hB _⟩) ?_
 rintro r O' ⟨m, n, i, hm, hf, hc, rfl, rfl⟩
 refine zA E (qj E E E E) (zX E (zK (qo ?_)))
 change retQ _ _ _ _ _ _ _
 refine retO (.inl E) (qh E qi) SubO.left rfl (hO.self _) (fun l hl => by rw [hO.dom]; exact (hL l).1 hl) ?_; refine ⟨m, n, _, hm, hf, ?_, rfl, rfl⟩
 rcases hc with ⟨h1, h2, rfl, h3⟩ | ⟨h1, rfl, h3⟩
 ·exact .inl ⟨h1, h2, by simp, h3⟩
 ·exact .inr ⟨h1, by simp, h3⟩
def mayL (f : Tm → Int → Bool × Int) : List Tm → Int → Bool × Int
 | [], n => (true, n)
 | a :: l, n => if (f a n).1 then mayL f l (f a n).2 else (false, (f a n).2)
def mayS : Nat → Tm → Int → Bool × Int
  | 0, _, n => (false, n - 1)
  | d + 1, t, n =>
    if n - 1 < 0 then (false, n - 1)
    else if t.kind = 1 then (varB t.name && decide (t.n = 0) && decide (t.args.length = 0), n - 1)
    else if t.kind = 2 then (numB t.n && decide (t.name.size = 0) && decide (t.args.length = 0), n - 1)
    else if t.kind = 3 then (if nameB t.name && decide (t.n = 0) && decide (t.args.length ≤ 4) then mayL (mayS d) t.args (n - 1) else (false, n - 1))
    else (false, n - 1)
theorem mayL_range (f : Tm → Int → Bool × Int) (h : ∀ t n, 0 ≤ n → -1 ≤ (f t n).2 ∧ (f t n).2 ≤ n ∧ ((f t n).1 = true → 0 ≤ (f t n).2)) : ∀ (l : List Tm) (n : Int), 0 ≤ n → -1 ≤ (mayL f l n).2 ∧ (mayL f l n).2 ≤ n ∧ ((mayL f l n).1 = true → 0 ≤ (mayL f l n).2)
  | [], n, hn => by simp [mayL]; omega
  | a :: l, n, hn => by
    have h1 := h a n hn
    simp only [mayL]
    split
    · rename_i hb
      have := mayL_range f h l (f a n).2 (h1.2.2 hb)
      exact ⟨this.1, by omega, this.2.2⟩
    · exact ⟨h1.1, h1.2.1, by simp⟩
theorem mayS_range : ∀ (d : Nat) (t : Tm) (n : Int), 0 ≤ n → -1 ≤ (mayS d t n).2 ∧ (mayS d t n).2 ≤ n ∧ ((mayS d t n).1 = true → 0 ≤ (mayS d t n).2)
  | 0, t, n, hn => by simp [mayS]; omega
  | d + 1, t, n, hn => by
    simp only [mayS]
    split
    · simp; omega
    split
    · simp; omega
    split
    · simp; omega
    split
    · split
      · have := mayL_range (mayS d) (fun t n hn => mayS_range d t n hn) t.args (n - 1) (by omega)
        exact ⟨this.1, by omega, this.2.2⟩
      · simp; omega
    · simp; omega
def mayK0 (f : Tm → Int → Bool × Int) : Nat → List Tm → Int → Int
 | 0, _, n => n
 | _ + 1, [], n => n
 | k + 1, a :: l, n => mayK0 f k l (f a n).2
def mayK (f : Tm → Int → Bool × Int) (l : List Tm) (n : Int) (k : Nat) : Int := mayK0 f k l n
def mayP (f : Tm → Int → Bool × Int) : List Tm → Int → Nat → Bool
 | [], _, _ => false
 | a :: _, n, 0 => !(f a n).1
 | a :: l, n, k + 1 => mayP f l (f a n).2 k
theorem mayK_step (f : Tm → Int → Bool × Int) : ∀ (l : List Tm) (n : Int) (k : Nat) (u : Tm), l[k]? = some u → (∀ j, j < k → mayP f l n j = false) → mayP f l n k = !(f u (mayK f l n k)).1 ∧ mayK f l n (k + 1) = (f u (mayK f l n k)).2
  | [], n, k, u, hu, _ => by simp at hu
  | a :: l, n, 0, u, hu, _ => by
    simp only [List.getElem?_cons_zero, Option.some.injEq] at hu
    subst hu
    cases l <;> simp [mayP, mayK, mayK0]
  | a :: l, n, k + 1, u, hu, h => by
    simpa only [mayP, mayK, mayK0] using mayK_step f l (f a n).2 k u (by simpa using hu) (fun j hj => by simpa [mayP] using h (j + 1) (by omega))
theorem mayK_range (f : Tm → Int → Bool × Int) (h : ∀ t n, 0 ≤ n → -1 ≤ (f t n).2 ∧ (f t n).2 ≤ n ∧ ((f t n).1 = true → 0 ≤ (f t n).2)) : ∀ (l : List Tm) (n : Int) (k : Nat), 0 ≤ n → (∀ j, j < k → mayP f l n j = false) → k ≤ l.length → 0 ≤ mayK f l n k ∧ mayK f l n k ≤ n
  | l, n, 0, hn, _, _ => by cases l <;> simp [mayK, mayK0] <;> omega
  | [], n, k + 1, hn, _, hk => by simp at hk
  | a :: l, n, k + 1, hn, hj, hk => by
    have h0 := hj 0 (by omega)
    simp only [mayP, Bool.not_eq_false'] at h0
    have h1 := h a n hn
    have := mayK_range f h l (f a n).2 k (h1.2.2 h0) (fun j hj' => by simpa [mayP] using hj (j + 1) (by omega)) (by simpa using hk)
    simp only [mayK, mayK0] at this ⊢; omega
theorem mayL_end (f : Tm → Int → Bool × Int) : ∀ (l : List Tm) (n : Int) (m k : Nat) (b : Bool), (∀ j, j < m → mayP f l n j = false) → ((m < l.length ∧ mayP f l n m = true ∧ b = true ∧ k = m + 1) ∨ (m = l.length ∧ b = false ∧ k = m)) → mayL f l n = (!b, mayK f l n k)
  | [], n, m, k, b, _, hc => by
    rcases hc with ⟨h, _⟩ | ⟨rfl, rfl, rfl⟩
    · simp at h
    · simp [mayL, mayK, mayK0]
  | a :: l, n, 0, k, b, _, hc => by
    rcases hc with ⟨_, h, rfl, rfl⟩ | ⟨h, _⟩
    · simp only [mayP, Bool.not_eq_true'] at h
      cases l <;> simp [mayL, mayK, mayK0, h]
    · simp at h
  | a :: l, n, m + 1, k, b, hj, hc => by
    have h0 := hj 0 (by omega)
    simp only [mayP, Bool.not_eq_false'] at h0
    obtain ⟨k, rfl⟩ : ∃ k', k = k' + 1 := by rcases hc with ⟨_, _, _, rfl⟩ | ⟨_, _, rfl⟩ <;> exact ⟨_, rfl⟩
    have := mayL_end f l (f a n).2 m k b (fun j hj' => by simpa [mayP] using hj (j + 1) (by omega)) (by
      rcases hc with ⟨h1, h2, h3, h4⟩ | ⟨h1, h2, h3⟩
      · exact .inl ⟨by simpa using h1, by simpa [mayP] using h2, h3, by omega⟩
      · exact .inr ⟨by simpa using h1, h2, by omega⟩)
    simp only [mayL, h0, if_true, this, mayK, mayK0]
def MayC (d : Nat) : Prop := ∀ (e : Int), e = d → ∀ (t : Tm) (n : Int), t.wf → 0 ≤ n → n ≤ 24 → AC Tryz.prog 165 [tmA false t, iv e, .ptr 0 0] [(0, .box [iv n])] (fun r O => r = bv (mayS d t n).1 ∧ O = [(0, .box [iv (mayS d t n).2])])
theorem may1_ok (d : Nat) (hd : d < 5) (ih : MayC d) (e : Int) (he : e = d + 1) (t : Tm) (n : Int) (ht : t.wf) (h0 : 0 ≤ n) (h1 : n ≤ 24) : AC Tryz.prog 224 [tmA false t, .ptr 4 0, .ptr 5 0] [(4, .box [iv e]), (5, .box [.ptr 0 0]), (0, .box [iv n])]
  (fun r O => r = bv (!(mayS d t n).1) ∧ O = [(4, .box [iv e]), (5, .box [.ptr 0 0]), (0, .box [iv (mayS d t n).2])]) := by
 refine qF Tryz.func224 E Tryz.ntmps224 zL fun c hL hQ hDD => (qd (qb (qy E E zD (qaa 3 E E E) E (zX E (zK (qd ?_)))))); refine qb (zA E (qK E qw E E E E) (zA E (ql E qU E E E E E) ?_))
 refine zA E (qa0 E E E (by omega)) ?_; refine zA E (ql E tf_P_int E E E E E) ?_; refine qaj (avs := [_, _, _]) true E E E zD en_term_may E E (ih (e - 1) (by omega) t n ht h0 h1) E (qbX (.cons E trivial E .nil)) (by rintro r O' ⟨rfl, rfl⟩ l hl; exact .inl ((qdr (by rfl) l).trans hl)) (by rintro - r O' ⟨rfl, rfl⟩; exact ⟨rfl, rfl⟩) ?_
 rintro r O' ⟨rfl, rfl⟩
 refine zA E (qal E E) (zX E (zK (qo ?_)))
 change retQ _ _ _ _ _ _ _
 refine retO (O' := [(4, _), (5, _), (0, _)]) (.inl E) (qh E qi) (SubO.cons E (SubO.cons E (SubO.cons E SubO.nil))) ?_ ?_ ?_ ?_
 ·rfl
 ·rfl
 ·exact LO hL E
 ·exact ⟨rfl, rfl⟩
theorem mayfin {D : Nat} {t : Tm} {n m : Int} {b : Bool} (h : mayS D t n = (b, m)) : resV [bv b] = bv (mayS D t n).1 ∧ [(0, Ob.box [iv m])] = [(0, Ob.box [iv (mayS D t n).2])] := by rw [h]; exact ⟨rfl, rfl⟩
theorem may_ok : ∀ d : Nat, d ≤ 5 → MayC d := by
  intro d
  induction d with
  | zero =>
    intro hd e he t n ht h0 h1
    refine qF Tryz.func165 E Tryz.ntmps165 zL fun c hL hQ hDD => (qd (qb (qy E E zD (qaa 3 E E E) E (qy E E zD (qaa 4 E E E) E (qy E E zD (qaa 5 E E E) E (zX E (qc ?_))))))); refine qa (qd (qb (zA E (ql E tf_P_int E E E E E) ?_)))
    refine zA E (qcI E E) (zA E (ql E qU E E E E E) (zA E (qa0 E E E (by omega)) (zA E (qcI E E) (qae E E E qU E E E E E E E E E (zK (qd ?_)))))); refine qd (qb (zA E (ql E qU E E E E E) (zA E (qj E E E E) (zX E (qt 15 E (fun g15 => ?_) (fun g15 => ?_))))))
    · try simp only[↓cqA,cqB]at g15
      refine zY E (zY E (zY E (zY E (zA E (qg E E E) (zK (qaN E ?_)))))); refine qd (qb (zX E (zK (qo (qm ?_)))))
      change retQ _ _ _ _ _ _ _
      refine retO (O' := [(0, _)]) (.inl E) (qh E qi) (SubO.cons E SubO.nil) ?_ ?_ ?_ ?_
      · rfl
      · rfl
      · exact LO hL E
      exact mayfin (by simp [mayS])
    try simp only[↓cqA,cqB]at g15
    omega
  | succ d ih =>
    intro hd e he t n ht h0 h1
    have hlen := qaJ t.args
    have hal := ht.2.2.2.1
    refine qF Tryz.func165 E Tryz.ntmps165 zL fun c hL hQ hDD => (qd (qb (qy E E zD (qaa 3 E E E) E (qy E E zD (qaa 4 E E E) E (qy E E zD (qaa 5 E E E) E (zX E (qc ?_))))))); refine qa (qd (qb (zA E (ql E tf_P_int E E E E E) ?_)))
    refine zA E (qcI E E) (zA E (ql E qU E E E E E) (zA E (qa0 E E E (by omega)) (zA E (qcI E E) (qae E E E qU E E E E E E E E E (zK (qd ?_)))))); refine qd (qb (zA E (ql E qU E E E E E) (zA E (qj E E E E) (zX E (qt 15 E (fun g15 => ?_) (fun g15 => ?_))))))
    · try simp only[↓cqA,cqB]at g15
      omega
    try simp only[↓cqA,cqB]at g15
    refine zZ E (ql E tf_P_int E E E E E) (zZ E (qcI E E) (zZ E (ql E qU E E E E E) (zZ E (qj E E E E) (zA E (qg E E E) (zK (qq E (fun c0 => ?_) (fun c0 => ?_)))))))
    · try simp only[↓cqA,cqB]at c0
      refine qd (qb (zX E (zK (qo (qm ?_)))))
      change retQ _ _ _ _ _ _ _
      refine retO (O' := [(0, _)]) (.inl E) (qh E qi) (SubO.cons E SubO.nil) ?_ ?_ ?_ ?_
      · rfl
      · rfl
      · exact LO hL E
      refine mayfin ?_
      rw [mayS, if_pos (by omega)]
    try simp only[↓cqA,cqB]at c0
    refine qr (qa (qd (qd (qb (zA E (qe E qar E) (zA E (ql E qU E E E E E) (qc ?_))))))); refine qa (qv (qd (qb (zA E (qj E E E E) (zX E (zK ?_)))))); refine qq E (fun c1 => ?_) (fun c1 => ?_)
    · try simp only[↓cqA,cqB]at c1
      refine qd (qb (zA E (qe E qav E) (zA E (ql E qaf E E E E E) (qE (avs := [_]) true E E E zD en_term_Var E E (Var_ok _) E E (zX E (qt 28 E (fun g28 => ?_) (fun g28 => ?_)))))))
      · try simp only[↓cqA,cqB]at g28
        refine zZ E (qe E qbc E) (zZ E (ql E qU E E E E E) (zZ E (qj E E E E) (zA E (qg E E E) (zX E (qt 33 E (fun g33 => ?_) (fun g33 => ?_))))))
        · try simp only[↓cqA,cqB]at g33
          refine zZ E (qe E q8 E) (zZ E (ql E q7 E E E E E) (zZ E (qu E qI E) (zZ E (qj E E E E) (zA E (qg E E E) (zX E (zK (qo (qS (qm ?_)))))))))
          change retQ _ _ _ _ _ _ _
          refine retO (O' := [(0, _)]) (.inl E) (qh E qi) (SubO.cons E SubO.nil) ?_ ?_ ?_ ?_
          · rfl
          · rfl
          · exact LO hL E
          refine mayfin ?_
          rw [mayS, if_neg (by omega)]
          simp_all [natBeq0]
          try (intro hx; omega)
        try simp only[↓cqA,cqB]at g33
        refine zY E (zY E (zY E (zY E (zA E (qg E E E) (zX E (zK ?_)))))); refine qo (qS (qm ?_))
        change retQ _ _ _ _ _ _ _
        refine retO (O' := [(0, _)]) (.inl E) (qh E qi) (SubO.cons E SubO.nil) ?_ ?_ ?_ ?_
        · rfl
        · rfl
        · exact LO hL E
        refine mayfin ?_
        rw [mayS, if_neg (by omega)]
        simp_all [natBeq0]
        try (intro hx; omega)
      try simp only[↓cqA,cqB]at g28
      refine zY E (zY E (zY E (zA E (qg E E E) (zX E (zY E ?_)))))
      refine zY E (zY E (zY E (zA E (qg E E E) (zX E (zK (qo ?_)))))); refine qS (qm ?_)
      change retQ _ _ _ _ _ _ _
      refine retO (O' := [(0, _)]) (.inl E) (qh E qi) (SubO.cons E SubO.nil) ?_ ?_ ?_ ?_
      · rfl
      · rfl
      · exact LO hL E
      refine mayfin ?_
      rw [mayS, if_neg (by omega)]
      simp_all [natBeq0]
      try (intro hx; omega)
    try simp only[↓cqA,cqB]at c1
    refine qd (qb (zA E (qj E E E E) (zX E (zK (qq E (fun c2 => ?_) (fun c2 => ?_))))))
    · try simp only[↓cqA,cqB]at c2
      refine qd (qb (zA E (qe E qbc E) (zA E (ql E qU E E E E E) (qE (avs := [_]) true E E E zD en_term_Number E E (Number_ok _) E E (zX E (qt 44 E (fun g44 => ?_) (fun g44 => ?_)))))))
      · try simp only[↓cqA,cqB]at g44
        refine zZ E (qe E qav E) (zZ E (ql E qaf E E E E E) (zZ E (qbV E E E E) (zA E (qg E E E) (zX E (qt 49 E (fun g49 => ?_) (fun g49 => ?_))))))
        · try simp only[↓cqA,cqB]at g49
          have g49 := size_zero.2 g49
          refine zZ E (qe E q8 E) (zZ E (ql E q7 E E E E E) (zZ E (qu E qI E) (zZ E (qj E E E E) (zA E (qg E E E) (zX E (zK (qo (qS (qm ?_)))))))))
          change retQ _ _ _ _ _ _ _
          refine retO (O' := [(0, _)]) (.inl E) (qh E qi) (SubO.cons E SubO.nil) ?_ ?_ ?_ ?_
          · rfl
          · rfl
          · exact LO hL E
          refine mayfin ?_
          rw [mayS, if_neg (by omega)]
          simp_all [natBeq0]
          try (intro hx; omega)
        try simp only[↓cqA,cqB]at g49
        have g49 : ¬ t.name.size = 0 := mt size_zero.1 g49
        refine zY E (zY E (zY E (zY E (zA E (qg E E E) (zX E (zK ?_)))))); refine qo (qS (qm ?_))
        change retQ _ _ _ _ _ _ _
        refine retO (O' := [(0, _)]) (.inl E) (qh E qi) (SubO.cons E SubO.nil) ?_ ?_ ?_ ?_
        · rfl
        · rfl
        · exact LO hL E
        refine mayfin ?_
        rw [mayS, if_neg (by omega)]
        simp_all [natBeq0]
        try (intro hx; omega)
      try simp only[↓cqA,cqB]at g44
      refine zY E (zY E (zY E (zA E (qg E E E) (zX E (zY E ?_)))))
      refine zY E (zY E (zY E (zA E (qg E E E) (zX E (zK (qo ?_)))))); refine qS (qm ?_)
      change retQ _ _ _ _ _ _ _
      refine retO (O' := [(0, _)]) (.inl E) (qh E qi) (SubO.cons E SubO.nil) ?_ ?_ ?_ ?_
      · rfl
      · rfl
      · exact LO hL E
      refine mayfin ?_
      rw [mayS, if_neg (by omega)]
      simp_all [natBeq0]
      try (intro hx; omega)
    try simp only[↓cqA,cqB]at c2
    refine qd (qb (zA E (qj E E E E) (zX E (zK (qq E (fun c3 => ?_) (fun c3 => ?_))))))
    · try simp only[↓cqA,cqB]at c3
      refine qd (qb (zA E (qdL (vs := [_, _]) E E) (zX E (zK (qd (qb ?_)))))); refine zA E (qe E qav E) (zA E (ql E qaf E E E E E) (qE (avs := [_]) true E E E zD en_term_Name E E (Name_ok _) E E (zX E (qt 61 E (fun g61 => ?_) (fun g61 => ?_)))))
      · try simp only[↓cqA,cqB]at g61
        refine zZ E (qe E qbc E) (zZ E (ql E qU E E E E E) (zZ E (qj E E E E) (zA E (qg E E E) (zX E (qt 66 E (fun g66 => ?_) (fun g66 => ?_))))))
        · try simp only[↓cqA,cqB]at g66
          refine zZ E (qe E q8 E) (zZ E (ql E q7 E E E E E) (zZ E (qu E qI E) (zZ E (qj E E E E) (zA E (qg E E E) (zX E (qt 72 E (fun g72 => ?_) (fun g72 => ?_)))))))
          · try simp only[↓cqA,cqB]at g72
            have g72 : t.args.length ≤ 4 := by omega
            refine zZ E (qe E q8 E) (zZ E (ql E q7 E E E E E) (zZ E (qk (.inl E) E) ?_))
            have hst : ∀ k u, t.args[k]? = some u → (∀ j, j < k → mayP (mayS d) t.args (n - 1) j = false) → AC Tryz.prog 224 [tmA false u, .ptr 4 0, .ptr 5 0] [(4, .box [iv e]), (5, .box [.ptr 0 0]), (0, .box [iv (mayK (mayS d) t.args (n - 1) k)])]
                (fun r O => r = bv (mayP (mayS d) t.args (n - 1) k) ∧ O = [(4, .box [iv e]), (5, .box [.ptr 0 0]), (0, .box [iv (mayK (mayS d) t.args (n - 1) (k + 1))])]) := fun k u hu hj => by
              obtain ⟨e1, e2⟩ := mayK_step (mayS d) t.args (n - 1) k u hu hj
              have hkl : k < t.args.length := by have := List.getElem?_eq_some_iff.1 hu; exact this.1
              have hr := mayK_range (mayS d) (fun t n hn => mayS_range d t n hn) t.args (n - 1) k (by omega) hj (by omega)
              rw [e1, e2]
              exact may1_ok d (by omega) (ih (by omega)) e (by omega) u _ (Tm.wfs_get ht.2.2.2.2 hu) hr.1 (by omega)
            refine awps_gcallP (avs := [_, _]) true E E E zD E E zD qc2 E E (ContainsFunc_tm_ok true t.args _ (qdh _) (by omega) _ [.ptr 4 0, .ptr 5 0] en_term_may_1 (fun k => [(4, .box [iv e]), (5, .box [.ptr 0 0]), (0, .box [iv (mayK (mayS d) t.args (n - 1) k)])]) (mayP (mayS d) t.args (n - 1)) ⟨fun k l => qdr (by rfl) l, fun k => qbX (.cons E trivial E (.cons E trivial E (.cons E trivial E .nil))), fun k => rfl, fun k => rfl, fun k => rfl, fun k => rfl, fun _ k => rfl⟩ (fun k u hu hj => hst k u hu hj)) E (qbX (.cons E trivial E (.cons E trivial E (.cons E trivial E .nil)))) (by rintro r O' ⟨m, k, b, _, _, _, _, rfl⟩ l hl; exact .inl ((qdr (by rfl) l).trans hl)) (by rintro - r O' ⟨m, k, b, _, _, _, rfl, rfl⟩; exact ⟨rfl, rfl⟩) ?_
            rintro r O' ⟨m, k, b, hm, hf, hc, rfl, rfl⟩
            refine zZ E (qal E E) (zA E (qg E E E) (zX E (zK (qo (qS (qm ?_))))))
            change retQ _ _ _ _ _ _ _
            refine retO (O' := [(0, _)]) (.inl E) (qh E qi) (SubO.cons E SubO.nil) ?_ ?_ ?_ ?_
            · rfl
            · rfl
            · exact LO hL E
            refine mayfin ?_
            rw [mayS, if_neg (by omega)]
            simp_all
            exact mayL_end (mayS d) t.args (n - 1) m k b hf hc
          try simp only[↓cqA,cqB]at g72
          have g72 : ¬ t.args.length ≤ 4 := by omega
          refine zY E (zY E (zY E ?_))
          have hst : ∀ k u, t.args[k]? = some u → (∀ j, j < k → mayP (mayS d) t.args (n - 1) j = false) → AC Tryz.prog 224 [tmA false u, .ptr 4 0, .ptr 5 0] [(4, .box [iv e]), (5, .box [.ptr 0 0]), (0, .box [iv (mayK (mayS d) t.args (n - 1) k)])]
              (fun r O => r = bv (mayP (mayS d) t.args (n - 1) k) ∧ O = [(4, .box [iv e]), (5, .box [.ptr 0 0]), (0, .box [iv (mayK (mayS d) t.args (n - 1) (k + 1))])]) := fun k u hu hj => by
            obtain ⟨e1, e2⟩ := mayK_step (mayS d) t.args (n - 1) k u hu hj
            have hkl : k < t.args.length := by have := List.getElem?_eq_some_iff.1 hu; exact this.1
            have hr := mayK_range (mayS d) (fun t n hn => mayS_range d t n hn) t.args (n - 1) k (by omega) hj (by omega)
            rw [e1, e2]
            exact may1_ok d (by omega) (ih (by omega)) e (by omega) u _ (Tm.wfs_get ht.2.2.2.2 hu) hr.1 (by omega)
          refine zY E (zY E (zA E (qg E E E) (zX E (zK (qo (qS (qm ?_)))))))
          change retQ _ _ _ _ _ _ _
          refine retO (O' := [(0, _)]) (.inl E) (qh E qi) (SubO.cons E SubO.nil) ?_ ?_ ?_ ?_
          · rfl
          · rfl
          · exact LO hL E
          refine mayfin ?_
          rw [mayS, if_neg (by omega)]
          simp_all [natBeq0]
          try (intro hx; omega)
        try simp only[↓cqA,cqB]at g66
        refine zY E (zY E (zY E (zY E (zA E (qg E E E) (zX E (zY E (zY E ?_))))))); refine zY E ?_
        have hst : ∀ k u, t.args[k]? = some u → (∀ j, j < k → mayP (mayS d) t.args (n - 1) j = false) → AC Tryz.prog 224 [tmA false u, .ptr 4 0, .ptr 5 0] [(4, .box [iv e]), (5, .box [.ptr 0 0]), (0, .box [iv (mayK (mayS d) t.args (n - 1) k)])]
            (fun r O => r = bv (mayP (mayS d) t.args (n - 1) k) ∧ O = [(4, .box [iv e]), (5, .box [.ptr 0 0]), (0, .box [iv (mayK (mayS d) t.args (n - 1) (k + 1))])]) := fun k u hu hj => by
          obtain ⟨e1, e2⟩ := mayK_step (mayS d) t.args (n - 1) k u hu hj
          have hkl : k < t.args.length := by have := List.getElem?_eq_some_iff.1 hu; exact this.1
          have hr := mayK_range (mayS d) (fun t n hn => mayS_range d t n hn) t.args (n - 1) k (by omega) hj (by omega)
          rw [e1, e2]
          exact may1_ok d (by omega) (ih (by omega)) e (by omega) u _ (Tm.wfs_get ht.2.2.2.2 hu) hr.1 (by omega)
        refine zY E (zY E (zA E (qg E E E) (zX E (zK (qo (qS (qm ?_)))))))
        change retQ _ _ _ _ _ _ _
        refine retO (O' := [(0, _)]) (.inl E) (qh E qi) (SubO.cons E SubO.nil) ?_ ?_ ?_ ?_
        · rfl
        · rfl
        · exact LO hL E
        refine mayfin ?_
        rw [mayS, if_neg (by omega)]
        simp_all [natBeq0]
        try (intro hx; omega)
      try simp only[↓cqA,cqB]at g61
      refine zY E (zY E (zY E (zA E (qg E E E) (zX E (zY E (zY E (zY E (zY E (zA E (qg E E E) (zX E (zY E (zY E (zY E ?_)))))))))))))
      have hst : ∀ k u, t.args[k]? = some u → (∀ j, j < k → mayP (mayS d) t.args (n - 1) j = false) → AC Tryz.prog 224 [tmA false u, .ptr 4 0, .ptr 5 0] [(4, .box [iv e]), (5, .box [.ptr 0 0]), (0, .box [iv (mayK (mayS d) t.args (n - 1) k)])]
          (fun r O => r = bv (mayP (mayS d) t.args (n - 1) k) ∧ O = [(4, .box [iv e]), (5, .box [.ptr 0 0]), (0, .box [iv (mayK (mayS d) t.args (n - 1) (k + 1))])]) := fun k u hu hj => by
        obtain ⟨e1, e2⟩ := mayK_step (mayS d) t.args (n - 1) k u hu hj
        have hkl : k < t.args.length := by have := List.getElem?_eq_some_iff.1 hu; exact this.1
        have hr := mayK_range (mayS d) (fun t n hn => mayS_range d t n hn) t.args (n - 1) k (by omega) hj (by omega)
        rw [e1, e2]
        exact may1_ok d (by omega) (ih (by omega)) e (by omega) u _ (Tm.wfs_get ht.2.2.2.2 hu) hr.1 (by omega)
      refine zY E (zY E (zA E (qg E E E) (zX E (zK (qo (qS (qm ?_)))))))
      change retQ _ _ _ _ _ _ _
      refine retO (O' := [(0, _)]) (.inl E) (qh E qi) (SubO.cons E SubO.nil) ?_ ?_ ?_ ?_
      · rfl
      · rfl
      · exact LO hL E
      refine mayfin ?_
      rw [mayS, if_neg (by omega)]
      simp_all [natBeq0]
      try (intro hx; omega)
    try simp only[↓cqA,cqB]at c3
    refine qr (qP (qa (qd (qb (zX E (zK ?_)))))); refine qo ?_
    change retQ _ _ _ _ _ _ _
    refine retO (O' := [(0, _)]) (.inl E) (qh E qi) (SubO.cons E SubO.nil) ?_ ?_ ?_ ?_
    · rfl
    · rfl
    · exact LO hL E
    refine mayfin ?_
    rw [mayS, if_neg (by omega)]
    simp_all [natBeq0]
    try (intro hx; omega)
def mayT (t : Tm) : Bool := (mayS 5 t 24).1
theorem May_ok (t : Tm) (ht : t.wf) : PF 110 [tmA false t] (bv (mayT t)) := by
 have key := AC_rnE 0 3 (may_ok 5 (by omega) 5 E t 24 ht (by omega) (by omega))
 refine qF Tryz.func110 E Tryz.ntmps110 zL fun c hL hQ hDD => (qd (qb (qy E E zD (qaa 1 E E E) E (zX E (zK (qd ?_)))))); refine qb (qy E E zD (qaD 3 E zv_int E) E (qae E E E qU E E E E E E E E E (zK (qd (qb ?_)))))
 refine zA E (qK E qw E E E E) ?_; refine qaj (avs := [_, _, _]) true E E E zD en_term_may E E (key) E (qbX (.cons E trivial E .nil)) (by rintro r O' ⟨rfl, rfl⟩ l hl; exact .inl ((qdr (by rfl) l).trans hl)) (by rintro - r O' ⟨rfl, rfl⟩; exact ⟨rfl, rfl⟩) ?_
 rintro r O' ⟨rfl, rfl⟩
 refine zX E (zK (qo (zI hL (qh E qi) ?_ ?_)))
 ·rfl
 exact ⟨rfl, rfl⟩
end Go.Proofs.YtpgceiijoedppaaGreat
