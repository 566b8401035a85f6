/- Part 5 of the proof: Ty, Rd, Tw, Fa, Top, Fb, Fc. -/
import Derived.Test.YtdecgkhdbfgldaaGreatG4
import Derived.Test.YtdecgkhdbfgldaaGreatProg
import Derived.WalkKit
import Derived.ProofKit
import Derived.OpenShut
import Derived.ShutString
import Derived.ChangeOld
import Derived.Below
import Derived.SizedLaws
import Derived.JoinedOf
set_option linter.unusedVariables false
set_option maxRecDepth 10000
namespace Go.Proofs.YtdecgkhdbfgldaaGreat
open Go
theorem tf_int : tfB Tryz.prog 3 false 1 = true := by kernel_rfl
theorem zv_int : zvB Tryz.prog 3 = some (some [.int .i64 0]) := by kernel_rfl
theorem ul_int : Tryz.prog.underlying 3 = some (.int .i64) := by kernel_rfl
theorem us_int : (Tryz.prog.underlying 3).isSome = true := by kernel_rfl
theorem ul_bool : Tryz.prog.underlying 4 = some .bool := by kernel_rfl
theorem zv_uint8 : zvB Tryz.prog 5 = some (some [.int .u8 0]) := by kernel_rfl
theorem ul_uint8 : Tryz.prog.underlying 5 = some (.int .u8) := by kernel_rfl
theorem tf_string : tfB Tryz.prog 9 false 1 = true := by kernel_rfl
theorem ul_string : Tryz.prog.underlying 9 = some .string := by kernel_rfl
theorem ul_int32 : Tryz.prog.underlying 21 = some (.int .i32) := by kernel_rfl
theorem us_int32 : (Tryz.prog.underlying 21).isSome = true := by kernel_rfl
theorem sl_S_S_api_Bind : slB Tryz.prog 22 28 1 = true := by kernel_rfl
theorem ta_S_S_api_Bind : TyA Tryz.prog 22 28 1 24 := ⟨sl_S_S_api_Bind, ⟨(.slice none 0 0 : Value), by kernel_rfl, rfl⟩, by decide⟩
theorem tf_S_api_Term : tfB Tryz.prog 23 false 1 = true := by kernel_rfl
theorem sl_S_api_Term : slB Tryz.prog 23 35 4 = true := by kernel_rfl
theorem ta_S_api_Term : TyA Tryz.prog 23 35 4 56 := ⟨sl_S_api_Term, ⟨.agg #[.int .i64 0, .string ⟨#[]⟩, .int .i64 0, .slice none 0 0], by kernel_rfl, rfl⟩, by decide⟩
theorem sl_S_string : slB Tryz.prog 24 9 1 = true := by kernel_rfl
theorem tf_S_api_Bind : tfB Tryz.prog 28 false 1 = true := by kernel_rfl
theorem zv_S_api_Bind : zvB Tryz.prog 28 = some (some [.slice none 0 0]) := by kernel_rfl
theorem sl_S_api_Bind : slB Tryz.prog 28 40 5 = true := by kernel_rfl
theorem ta_S_api_Bind : TyA Tryz.prog 28 40 5 72 := ⟨sl_S_api_Bind, ⟨.agg #[.string ⟨#[]⟩, .int .i64 0, .string ⟨#[]⟩, .int .i64 0, .slice none 0 0], by kernel_rfl, rfl⟩, by decide⟩
theorem by_api_Term : Tryz.prog.bytesOf 35 = 56 := by kernel_rfl
theorem tf_api_Term : tfB Tryz.prog 35 true 4 = true := by kernel_rfl
theorem fo_api_Term_0 : foB Tryz.prog 35 0 0 = true := by kernel_rfl
theorem fo_api_Term_1 : foB Tryz.prog 35 1 1 = true := by kernel_rfl
theorem fo_api_Term_2 : foB Tryz.prog 35 2 2 = true := by kernel_rfl
theorem fo_api_Term_3 : foB Tryz.prog 35 3 3 = true := by kernel_rfl
theorem st_api_Term : stB Tryz.prog 35 [(3, 0, 1), (9, 1, 1), (3, 2, 1), (23, 3, 1)] 4 = true := by kernel_rfl
theorem pl_api_Term : plB Tryz.prog 35 = some [(0, 1), (1, 1), (2, 1), (3, 1)] := by kernel_rfl
theorem zv_api_Term : zvB Tryz.prog 35 = some (some [.int .i64 0, .string ⟨#[]⟩, .int .i64 0, .slice none 0 0]) := by kernel_rfl
theorem tf_api_Bind : tfB Tryz.prog 40 true 5 = true := by kernel_rfl
theorem fo_api_Bind_0 : foB Tryz.prog 40 0 0 = true := by kernel_rfl
theorem fo_api_Bind_1 : foB Tryz.prog 40 1 1 = true := by kernel_rfl
theorem pl_api_Bind : plB Tryz.prog 40 = some [(0, 1), (1, 4)] := by kernel_rfl
theorem zv_api_Bind : zvB Tryz.prog 40 = some (some [.string ⟨#[]⟩, .int .i64 0, .string ⟨#[]⟩, .int .i64 0, .slice none 0 0]) := by kernel_rfl
theorem sl_S_api_Clause : slB Tryz.prog 59 106 6 = true := by kernel_rfl
theorem ta_S_api_Clause : TyA Tryz.prog 59 106 6 104 := ⟨sl_S_api_Clause, ⟨.agg #[.int .i64 0, .string ⟨#[]⟩, .int .i64 0, .slice none 0 0, .slice none 0 0, .slice none 0 0], by kernel_rfl, rfl⟩, by decide⟩
theorem fo_almagestlaw11_Ask_1 : foB Tryz.prog 61 1 1 = true := by kernel_rfl
theorem fo_almagestlaw11_Ask_2 : foB Tryz.prog 61 2 2 = true := by kernel_rfl
theorem st_almagestlaw11_Ask : stB Tryz.prog 61 [(59, 0, 1), (23, 1, 1), (23, 2, 1)] 3 = true := by kernel_rfl
theorem tf_S_api_Guard : tfB Tryz.prog 62 false 1 = true := by kernel_rfl
theorem sl_S_api_Guard : slB Tryz.prog 62 111 9 = true := by kernel_rfl
theorem sl_S_int : slB Tryz.prog 71 3 1 = true := by kernel_rfl
theorem by_api_Clause : Tryz.prog.bytesOf 106 = 104 := by kernel_rfl
theorem tf_api_Clause : tfB Tryz.prog 106 true 6 = true := by kernel_rfl
theorem fo_api_Clause_0 : foB Tryz.prog 106 0 0 = true := by kernel_rfl
theorem fo_api_Clause_1 : foB Tryz.prog 106 1 4 = true := by kernel_rfl
theorem fo_api_Clause_2 : foB Tryz.prog 106 2 5 = true := by kernel_rfl
theorem st_api_Clause : stB Tryz.prog 106 [(35, 0, 4), (23, 4, 1), (62, 5, 1)] 6 = true := by kernel_rfl
theorem pl_api_Clause : plB Tryz.prog 106 = some [(0, 4), (4, 1), (5, 1)] := by kernel_rfl
theorem zv_api_Clause : zvB Tryz.prog 106 = some (some [.int .i64 0, .string ⟨#[]⟩, .int .i64 0, .slice none 0 0, .slice none 0 0, .slice none 0 0]) := by kernel_rfl
theorem by_api_Guard : Tryz.prog.bytesOf 111 = 120 := by kernel_rfl
theorem tf_api_Guard : tfB Tryz.prog 111 true 9 = true := by kernel_rfl
theorem fo_api_Guard_0 : foB Tryz.prog 111 0 0 = true := by kernel_rfl
theorem fo_api_Guard_1 : foB Tryz.prog 111 1 1 = true := by kernel_rfl
theorem fo_api_Guard_2 : foB Tryz.prog 111 2 5 = true := by kernel_rfl
theorem st_api_Guard : stB Tryz.prog 111 [(3, 0, 1), (35, 1, 4), (35, 5, 4)] 9 = true := by kernel_rfl
theorem zv_api_Guard : zvB Tryz.prog 111 = some (some [.int .i64 0, .int .i64 0, .string ⟨#[]⟩, .int .i64 0, .slice none 0 0, .int .i64 0, .string ⟨#[]⟩, .int .i64 0, .slice none 0 0]) := by kernel_rfl
theorem ul_uint : Tryz.prog.underlying 159 = some (.int .u64) := by kernel_rfl
theorem us_uint : (Tryz.prog.underlying 159).isSome = true := by kernel_rfl
theorem tf_P_int : tfB Tryz.prog 168 false 1 = true := by kernel_rfl
theorem um_map_string_bool : Tryz.prog.underlying 173 = some (.map 9 4) := by kernel_rfl
theorem um_known_found : Tryz.prog.underlying 209 = some (.map 9 35) := by kernel_rfl
theorem ul_uint32 : Tryz.prog.underlying 235 = some (.int .u32) := by kernel_rfl
theorem us_uint32 : (Tryz.prog.underlying 235).isSome = true := by kernel_rfl
theorem tf_check_names : tfB Tryz.prog 238 false 1 = true := by kernel_rfl
theorem um_check_names : Tryz.prog.underlying 238 = some (.map 9 4) := by kernel_rfl
theorem sl_S_uint8 : slB Tryz.prog 241 5 1 = true := by kernel_rfl
theorem ta_S_uint8 : TyA Tryz.prog 241 5 1 1 := ⟨sl_S_uint8, ⟨(.int .u8 0 : Value), by kernel_rfl, rfl⟩, by decide⟩
theorem sl_S_unify_pair : slB Tryz.prog 247 251 8 = true := by kernel_rfl
theorem ta_S_unify_pair : TyA Tryz.prog 247 251 8 112 := ⟨sl_S_unify_pair, ⟨.agg #[.int .i64 0, .string ⟨#[]⟩, .int .i64 0, .slice none 0 0, .int .i64 0, .string ⟨#[]⟩, .int .i64 0, .slice none 0 0], by kernel_rfl, rfl⟩, by decide⟩
theorem tf_unify_pair : tfB Tryz.prog 251 true 8 = true := by kernel_rfl
theorem zv_unify_pair : zvB Tryz.prog 251 = some (some [.int .i64 0, .string ⟨#[]⟩, .int .i64 0, .slice none 0 0, .int .i64 0, .string ⟨#[]⟩, .int .i64 0, .slice none 0 0]) := by kernel_rfl
theorem en_almagestlaw11_atom : Enters Tryz.prog 65 := enters_of Tryz.func65 (by kernel_rfl) (by kernel_rfl)
theorem en_almagestlaw11_number : Enters Tryz.prog 66 := enters_of Tryz.func66 (by kernel_rfl) (by kernel_rfl)
theorem en_almagestlaw11_variable : Enters Tryz.prog 67 := enters_of Tryz.func67 (by kernel_rfl) (by kernel_rfl)
theorem en_known_All : Enters Tryz.prog 68 := enters_of Tryz.func68 (by kernel_rfl) (by kernel_rfl)
theorem en_almagestlaw11_num : Enters Tryz.prog 69 := enters_of Tryz.func69 (by kernel_rfl) (by kernel_rfl)
theorem en_almagestlaw11_wakes : Enters Tryz.prog 70 := enters_of Tryz.func70 (by kernel_rfl) (by kernel_rfl)
theorem en_almagestlaw0_Within : Enters Tryz.prog 76 := enters_of Tryz.func76 (by kernel_rfl) (by kernel_rfl)
theorem en_known_Ask : Enters Tryz.prog 77 := enters_of Tryz.func77 (by kernel_rfl) (by kernel_rfl)
theorem en_bind_Look : Enters Tryz.prog 85 := enters_of Tryz.func85 (by kernel_rfl) (by kernel_rfl)
theorem en_term_Own : Enters Tryz.prog 86 := enters_of Tryz.func86 (by kernel_rfl) (by kernel_rfl)
theorem en_term_Var : Enters Tryz.prog 87 := enters_of Tryz.func87 (by kernel_rfl) (by kernel_rfl)
theorem en_term_May : Enters Tryz.prog 88 := enters_of Tryz.func88 (by kernel_rfl) (by kernel_rfl)
theorem en_bind_find : Enters Tryz.prog 90 := enters_of Tryz.func90 (by kernel_rfl) (by kernel_rfl)
theorem en_slices_ContainsFunc_string_string : Enters Tryz.prog 91 := enters_of Tryz.func91 (by kernel_rfl) (by kernel_rfl)
theorem en_term_Names : Enters Tryz.prog 92 := enters_of Tryz.func92 (by kernel_rfl) (by kernel_rfl)
theorem en_bind_Stand : Enters Tryz.prog 93 := enters_of Tryz.func93 (by kernel_rfl) (by kernel_rfl)
theorem en_bind_Into : Enters Tryz.prog 98 := enters_of Tryz.func98 (by kernel_rfl) (by kernel_rfl)
theorem en_bind_Own : Enters Tryz.prog 102 := enters_of Tryz.func102 (by kernel_rfl) (by kernel_rfl)
theorem en_known_Atoms : Enters Tryz.prog 109 := enters_of Tryz.func109 (by kernel_rfl) (by kernel_rfl)
theorem en_slices_ContainsFunc_api_Clause_api_Clause : Enters Tryz.prog 131 := enters_of Tryz.func131 (by kernel_rfl) (by kernel_rfl)
theorem en_known_bad : Enters Tryz.prog 132 := enters_of Tryz.func132 (by kernel_rfl) (by kernel_rfl)
theorem en_known_step : Enters Tryz.prog 133 := enters_of Tryz.func133 (by kernel_rfl) (by kernel_rfl)
theorem en_slices_SortFunc_api_Term_api_Term : Enters Tryz.prog 134 := enters_of Tryz.func134 (by kernel_rfl) (by kernel_rfl)
theorem en_term_Compare : Enters Tryz.prog 135 := enters_of Tryz.func135 (by kernel_rfl) (by kernel_rfl)
theorem en_term_Flat : Enters Tryz.prog 138 := enters_of Tryz.func138 (by kernel_rfl) (by kernel_rfl)
theorem en_known_Answers : Enters Tryz.prog 139 := enters_of Tryz.func139 (by kernel_rfl) (by kernel_rfl)
theorem en_term_Turned : Enters Tryz.prog 144 := enters_of Tryz.func144 (by kernel_rfl) (by kernel_rfl)
theorem en_term_Own_1 : Enters Tryz.prog 145 := enters_of Tryz.func145 (by kernel_rfl) (by kernel_rfl)
theorem en_term_word : Enters Tryz.prog 146 := enters_of Tryz.func146 (by kernel_rfl) (by kernel_rfl)
theorem en_term_great : Enters Tryz.prog 147 := enters_of Tryz.func147 (by kernel_rfl) (by kernel_rfl)
theorem en_term_may : Enters Tryz.prog 148 := enters_of Tryz.func148 (by kernel_rfl) (by kernel_rfl)
theorem en_slices_BinarySearchFunc_api_Bind_api_Bind_string : Enters Tryz.prog 149 := enters_of Tryz.func149 (by kernel_rfl) (by kernel_rfl)
theorem en_bind_find_1 : Enters Tryz.prog 150 := enters_of Tryz.func150 (by kernel_rfl) (by kernel_rfl)
theorem en_strings_Compare : Enters Tryz.prog 151 := enters_of Tryz.func151 (by kernel_rfl) (by kernel_rfl)
theorem en_slices_IndexFunc_string_string : Enters Tryz.prog 152 := enters_of Tryz.func152 (by kernel_rfl) (by kernel_rfl)
theorem en_term_Note : Enters Tryz.prog 153 := enters_of Tryz.func153 (by kernel_rfl) (by kernel_rfl)
theorem en_slices_Sorted_string : Enters Tryz.prog 154 := enters_of Tryz.func154 (by kernel_rfl) (by kernel_rfl)
theorem en_maps_Keys_map_string_bool_string_bool : Enters Tryz.prog 155 := enters_of Tryz.func155 (by kernel_rfl) (by kernel_rfl)
theorem en_slices_Insert_api_Bind_api_Bind : Enters Tryz.prog 156 := enters_of Tryz.func156 (by kernel_rfl) (by kernel_rfl)
theorem en_bind_Put : Enters Tryz.prog 160 := enters_of Tryz.func160 (by kernel_rfl) (by kernel_rfl)
theorem en_term_Is : Enters Tryz.prog 164 := enters_of Tryz.func164 (by kernel_rfl) (by kernel_rfl)
theorem en_show_atom : Enters Tryz.prog 166 := enters_of Tryz.func166 (by kernel_rfl) (by kernel_rfl)
theorem en_show_compares : Enters Tryz.prog 168 := enters_of Tryz.func168 (by kernel_rfl) (by kernel_rfl)
theorem en_slices_ContainsFunc_api_Guard_api_Guard : Enters Tryz.prog 169 := enters_of Tryz.func169 (by kernel_rfl) (by kernel_rfl)
theorem en_known_Compare : Enters Tryz.prog 172 := enters_of Tryz.func172 (by kernel_rfl) (by kernel_rfl)
theorem en_cmp_Or_int : Enters Tryz.prog 183 := enters_of Tryz.func183 (by kernel_rfl) (by kernel_rfl)
theorem en_cmp_Compare_int : Enters Tryz.prog 184 := enters_of Tryz.func184 (by kernel_rfl) (by kernel_rfl)
theorem en_slices_IndexFunc_api_Clause_api_Clause : Enters Tryz.prog 192 := enters_of Tryz.func192 (by kernel_rfl) (by kernel_rfl)
theorem en_check_Clause : Enters Tryz.prog 193 := enters_of Tryz.func193 (by kernel_rfl) (by kernel_rfl)
theorem en_known_seek : Enters Tryz.prog 194 := enters_of Tryz.func194 (by kernel_rfl) (by kernel_rfl)
theorem en_term_Key : Enters Tryz.prog 195 := enters_of Tryz.func195 (by kernel_rfl) (by kernel_rfl)
theorem en_slices_CompareFunc_api_Term_api_Term_api_Term_api_Term : Enters Tryz.prog 197 := enters_of Tryz.func197 (by kernel_rfl) (by kernel_rfl)
theorem en_term_deep : Enters Tryz.prog 200 := enters_of Tryz.func200 (by kernel_rfl) (by kernel_rfl)
theorem en_unify_Fit : Enters Tryz.prog 201 := enters_of Tryz.func201 (by kernel_rfl) (by kernel_rfl)
theorem en_term_Inner : Enters Tryz.prog 204 := enters_of Tryz.func204 (by kernel_rfl) (by kernel_rfl)
theorem en_term_Number : Enters Tryz.prog 205 := enters_of Tryz.func205 (by kernel_rfl) (by kernel_rfl)
theorem en_term_may_1 : Enters Tryz.prog 206 := enters_of Tryz.func206 (by kernel_rfl) (by kernel_rfl)
theorem en_term_Name : Enters Tryz.prog 207 := enters_of Tryz.func207 (by kernel_rfl) (by kernel_rfl)
theorem en_slices_ContainsFunc_api_Term_api_Term : Enters Tryz.prog 208 := enters_of Tryz.func208 (by kernel_rfl) (by kernel_rfl)
theorem en_internal_bytealg_CompareString : Enters Tryz.prog 209 := enters_of Tryz.func209 (by kernel_rfl) (by kernel_rfl)
theorem en_bind_Put_1 : Enters Tryz.prog 215 := enters_of Tryz.func215 (by kernel_rfl) (by kernel_rfl)
theorem en_slices_IndexFunc_api_Guard_api_Guard : Enters Tryz.prog 216 := enters_of Tryz.func216 (by kernel_rfl) (by kernel_rfl)
theorem en_cmp_isNaN_int : Enters Tryz.prog 235 := enters_of Tryz.func235 (by kernel_rfl) (by kernel_rfl)
theorem en_show_Clause : Enters Tryz.prog 237 := enters_of Tryz.func237 (by kernel_rfl) (by kernel_rfl)
theorem en_check_names_has : Enters Tryz.prog 238 := enters_of Tryz.func238 (by kernel_rfl) (by kernel_rfl)
theorem en_check_guarded : Enters Tryz.prog 239 := enters_of Tryz.func239 (by kernel_rfl) (by kernel_rfl)
theorem en_known_seek_1 : Enters Tryz.prog 240 := enters_of Tryz.func240 (by kernel_rfl) (by kernel_rfl)
theorem en_known_holds : Enters Tryz.prog 241 := enters_of Tryz.func241 (by kernel_rfl) (by kernel_rfl)
theorem en_unify_args : Enters Tryz.prog 250 := enters_of Tryz.func250 (by kernel_rfl) (by kernel_rfl)
theorem en_term_small : Enters Tryz.prog 251 := enters_of Tryz.func251 (by kernel_rfl) (by kernel_rfl)
theorem en_term_digit : Enters Tryz.prog 252 := enters_of Tryz.func252 (by kernel_rfl) (by kernel_rfl)
theorem en_slices_IndexFunc_api_Term_api_Term : Enters Tryz.prog 253 := enters_of Tryz.func253 (by kernel_rfl) (by kernel_rfl)
theorem en_show_Clause_1 : Enters Tryz.prog 267 := enters_of Tryz.func267 (by kernel_rfl) (by kernel_rfl)
theorem en_show_Clause_2 : Enters Tryz.prog 268 := enters_of Tryz.func268 (by kernel_rfl) (by kernel_rfl)
theorem en_check_names_has_1 : Enters Tryz.prog 269 := enters_of Tryz.func269 (by kernel_rfl) (by kernel_rfl)
theorem mixed : Tryz.prog.follows .mixedOrders = true := by kernel_rfl
end Go.Proofs.YtdecgkhdbfgldaaGreat

set_option linter.unusedVariables false
set_option maxRecDepth 8000
namespace Go.Proofs.YtdecgkhdbfgldaaGreat
open Go Go.RowKit
theorem Tm.wfs_of : ∀ {l : List Tm}, (∀ t, t ∈ l → t.wf) → Tm.wfs l
  | [], _ => trivial
  | t :: l, h => ⟨(Tm.wf0_iff t).2 (h t (by simp)), Tm.wfs_of fun u hu => h u (by simp [hu])⟩
theorem rdr_tm (w : World) : ∀ n : Nat, Rdr Tryz.prog w n 35 4 tmD Tm.wf := by
  intro n
  induction n using Nat.strongRecOn with
  | _ n ih =>
    refine Rdr.map (fun x : Int × ByteArray × Int × List Tm × Unit => ⟨x.1, x.2.1, x.2.2.1, x.2.2.2.1⟩) (Rdr.struct st_api_Term (fun _ => rfl) fun m hm => RdrF.cons (Rdr.int ul_int) (RdrF.cons (Rdr.str ul_string) (RdrF.cons (Rdr.int ul_int) (RdrF.cons (Rdr.slice sl_S_api_Term (by decide) fun k hk => ih k (by omega)) RdrF.nil)))) tmD_length ?_ ?_
    · rintro ⟨a, b, c, l, _⟩ _
      simp only [tmD, tmDs_map]; rfl
    · rintro ⟨a, b, c, l, _⟩ ⟨h1, h2, h3, ⟨h4, h5⟩, _⟩
      rw [by_api_Term] at h4
      exact ⟨h1, h2, h3, h4, Tm.wfs_of h5⟩
theorem lenOk_of {α : Type} {l : List α} {k : Nat} (h : l.length * k ≤ 140737488351232) (hk : 0 < k) : lenOk l := Nat.le_trans (Nat.le_mul_of_pos_right _ hk) h
theorem rdr_tms (w : World) (n : Nat) : Rdr Tryz.prog w n 23 1 (fun l : List Tm => [.sl 4 (tmDs l)]) (fun l => lenOk l ∧ Tm.wfs l) := by
  refine Rdr.map id (Rdr.slice sl_S_api_Term (by decide) fun k _ => rdr_tm w k) (fun _ => rfl) ?_ ?_
  · intro l _; simp only [id, tmDs_map]
  · rintro l ⟨h1, h2⟩
    rw [by_api_Term] at h1
    exact ⟨lenOk_of h1 (by decide), Tm.wfs_of h2⟩
theorem rdr_gd (w : World) (n : Nat) : Rdr Tryz.prog w n 111 9 gdD Gd.wf := by
  refine Rdr.map (fun x : Int × Tm × Tm × Unit => ⟨x.1, x.2.1, x.2.2.1⟩) (Rdr.struct st_api_Guard (fun _ => rfl) fun m hm => RdrF.cons (Rdr.int ul_int) (RdrF.cons (rdr_tm w m) (RdrF.cons (rdr_tm w m) RdrF.nil))) (fun _ => rfl) ?_ ?_
  · rintro ⟨a, b, c, _⟩ _; rfl
  · rintro ⟨a, b, c, _⟩ ⟨h1, h2, h3, _⟩; exact ⟨h1, h2, h3⟩
theorem rdr_gds (w : World) (n : Nat) : Rdr Tryz.prog w n 62 1 (fun l : List Gd => [.sl 9 (gdDs l)]) (fun l => lenOk l ∧ ∀ g ∈ l, g.wf) := by
  refine Rdr.map id (Rdr.slice sl_S_api_Guard (by decide) fun k _ => rdr_gd w k) (fun _ => rfl) (fun _ _ => rfl) ?_
  rintro l ⟨h1, h2⟩
  rw [by_api_Guard] at h1
  exact ⟨lenOk_of h1 (by decide), h2⟩
theorem rdr_cl (w : World) (n : Nat) : Rdr Tryz.prog w n 106 6 clD Cl.wf := by
  refine Rdr.map (fun x : Tm × List Tm × List Gd × Unit => ⟨x.1, x.2.1, x.2.2.1⟩) (Rdr.struct st_api_Clause (fun _ => rfl) fun m hm => RdrF.cons (rdr_tm w m) (RdrF.cons (rdr_tms w m) (RdrF.cons (rdr_gds w m) RdrF.nil))) (fun _ => rfl) ?_ ?_
  · rintro ⟨a, b, c, _⟩ _; rfl
  · rintro ⟨a, b, c, _⟩ ⟨h1, h2, h3, _⟩; exact ⟨h1, h2, h3⟩
theorem rdr_cls (w : World) (n : Nat) : Rdr Tryz.prog w n 59 1 (fun l : List Cl => [.sl 6 (clDs l)]) (fun l => lenOk l ∧ ∀ g ∈ l, g.wf) := by
  refine Rdr.map id (Rdr.slice sl_S_api_Clause (by decide) fun k _ => rdr_cl w k) (fun _ => rfl) (fun _ _ => rfl) ?_
  rintro l ⟨h1, h2⟩
  rw [by_api_Clause] at h1
  exact ⟨lenOk_of h1 (by decide), h2⟩
theorem rdr_a11 (w : World) (n : Nat) : Rdr Tryz.prog w n 61 3 a11D Ask11.wf := by
  refine Rdr.map (fun x : List Cl × List Tm × List Tm × Unit => ⟨x.1, x.2.1, x.2.2.1⟩) (Rdr.struct st_almagestlaw11_Ask (fun _ => rfl) fun m hm => RdrF.cons (rdr_cls w m) (RdrF.cons (rdr_tms w m) (RdrF.cons (rdr_tms w m) RdrF.nil))) (fun _ => rfl) ?_ ?_
  · rintro ⟨a, b, c, _⟩ _; rfl
  · rintro ⟨a, b, c, _⟩ ⟨h1, h2, h3, _⟩; exact ⟨h1, h2, h3⟩
end Go.Proofs.YtdecgkhdbfgldaaGreat

set_option linter.unusedVariables false
set_option linter.unusedSimpArgs false
namespace Go.Proofs.YtdecgkhdbfgldaaGreat
open Go
theorem take_snoc {α : Type} {l : List α} {k : Nat} {a : α} (h : l[k]? = some a) : l.take (k + 1) = l.take k ++ [a] := by
  rw [List.take_add_one, h]; rfl
theorem get_of_lt {α : Type} {l : List α} {k : Nat} (h : k < l.length) : ∃ a, l[k]? = some a := ⟨l[k], by simp [h]⟩
end Go.Proofs.YtdecgkhdbfgldaaGreat

set_option linter.unusedVariables false
set_option linter.unusedSimpArgs false
set_option maxRecDepth 8000
namespace Go.Proofs.YtdecgkhdbfgldaaGreat
open Go
abbrev PF (f : FuncId) (args : List AV) (v : AV) : Prop := AC Tryz.prog f args [] (fun r O => r = v ∧ O = [])
abbrev PFm (f : FuncId) (args : List AV) (v : AV) : Prop := ACx true Tryz.prog f args [] (fun r O => r = v ∧ O = [])
abbrev bv (b : Bool) : AV := .imm (.bool b)
abbrev iv (n : Int) : AV := .imm (.int .i64 n)
abbrev uv (n : Int) : AV := .imm (.int .u8 n)
abbrev sv (s : ByteArray) : AV := .imm (.string s)
def digB (x : Int) : Bool := decide (48 ≤ x ∧ x ≤ 57)
def smallB (x : Int) : Bool := decide (97 ≤ x ∧ x ≤ 122)
def greatB (x : Int) : Bool := decide (65 ≤ x ∧ x ≤ 90)
def innerB (x : Int) : Bool := smallB x || greatB x || digB x || decide (x = 95)
def numB (x : Int) : Bool := decide (-1073741824 ≤ x ∧ x ≤ 1073741824)
theorem digit_ok (x : Int) : PF 252 [uv x] (bv (digB x)) := by
  refine AC_intro Tryz.func252 rfl Tryz.ntmps252 (Nat.le_of_ble_eq_true rfl) fun c hL hQ hDD => ?_; refine awp_seq ?_; refine awp_region ?_; refine awps_stp0 rfl rfl (by decide) (stp_move (.inr rfl) rfl) ?_; refine awps_nil ?_; refine thenQ_nil ?_; refine awp_seq ?_; refine awp_region ?_; refine awps_stp0 rfl rfl (by decide) (stp_move (.inl rfl) rfl) ?_; refine awps_stp0 rfl rfl (by decide) (stp_binI rfl rfl rfl rfl) ?_; refine awps_stp0 rfl rfl (by decide) (stp_move (.inl rfl) rfl) ?_; refine awps_split 5 rfl (fun g5 => ?_) (fun g5 => ?_)
  · try simp only [↓cqA, cqB] at g5
    refine awps_g0 rfl rfl rfl (by decide) rfl (by decide) (stp_move (.inl rfl) rfl) ?_; refine awps_g0 rfl rfl rfl (by decide) rfl (by decide) (stp_binI rfl rfl rfl rfl) ?_; refine awps_stp0 rfl rfl (by decide) (stp_pick rfl rfl rfl) ?_; refine awps_stp0 rfl rfl (by decide) (stp_move (.inr rfl) rfl) ?_; refine awps_nil ?_; refine thenQ_nil ?_; refine awp_ret ?_
    -- leaf g5T
    refine ret0 (noL hL) (.inl rfl) (resAs_tmp rfl (resAs_nil)) ?_ ?_
    · rfl
    refine ⟨bool_w ?_, rfl⟩
    rw [Bool.eq_iff_iff]; simp [digB]; try omega
  try simp only [↓cqA, cqB] at g5
  refine awps_gs rfl rfl rfl rfl (by decide) rfl (by decide) ?_; refine awps_gs rfl rfl rfl rfl (by decide) rfl (by decide) ?_; refine awps_stp0 rfl rfl (by decide) (stp_pick rfl rfl rfl) ?_; refine awps_stp0 rfl rfl (by decide) (stp_move (.inr rfl) rfl) ?_; refine awps_nil ?_; refine thenQ_nil ?_; refine awp_ret ?_
  -- leaf g5F
  refine ret0 (noL hL) (.inl rfl) (resAs_tmp rfl (resAs_nil)) ?_ ?_
  · rfl
  refine ⟨bool_w ?_, rfl⟩
  rw [Bool.eq_iff_iff]; simp [digB]; try omega
theorem small_ok (x : Int) : PF 251 [uv x] (bv (smallB x)) := by
  refine AC_intro Tryz.func251 rfl Tryz.ntmps251 (Nat.le_of_ble_eq_true rfl) fun c hL hQ hDD => ?_; refine awp_seq ?_; refine awp_region ?_; refine awps_stp0 rfl rfl (by decide) (stp_move (.inr rfl) rfl) ?_; refine awps_nil ?_; refine thenQ_nil ?_; refine awp_seq ?_; refine awp_region ?_; refine awps_stp0 rfl rfl (by decide) (stp_move (.inl rfl) rfl) ?_; refine awps_stp0 rfl rfl (by decide) (stp_binI rfl rfl rfl rfl) ?_; refine awps_stp0 rfl rfl (by decide) (stp_move (.inl rfl) rfl) ?_; refine awps_split 5 rfl (fun g5 => ?_) (fun g5 => ?_)
  · try simp only [↓cqA, cqB] at g5
    refine awps_g0 rfl rfl rfl (by decide) rfl (by decide) (stp_move (.inl rfl) rfl) ?_; refine awps_g0 rfl rfl rfl (by decide) rfl (by decide) (stp_binI rfl rfl rfl rfl) ?_; refine awps_stp0 rfl rfl (by decide) (stp_pick rfl rfl rfl) ?_; refine awps_stp0 rfl rfl (by decide) (stp_move (.inr rfl) rfl) ?_; refine awps_nil ?_; refine thenQ_nil ?_; refine awp_ret ?_
    -- leaf g5T
    refine ret0 (noL hL) (.inl rfl) (resAs_tmp rfl (resAs_nil)) ?_ ?_
    · rfl
    refine ⟨bool_w ?_, rfl⟩
    rw [Bool.eq_iff_iff]; simp [smallB]; try omega
  try simp only [↓cqA, cqB] at g5
  refine awps_gs rfl rfl rfl rfl (by decide) rfl (by decide) ?_; refine awps_gs rfl rfl rfl rfl (by decide) rfl (by decide) ?_; refine awps_stp0 rfl rfl (by decide) (stp_pick rfl rfl rfl) ?_; refine awps_stp0 rfl rfl (by decide) (stp_move (.inr rfl) rfl) ?_; refine awps_nil ?_; refine thenQ_nil ?_; refine awp_ret ?_
  -- leaf g5F
  refine ret0 (noL hL) (.inl rfl) (resAs_tmp rfl (resAs_nil)) ?_ ?_
  · rfl
  refine ⟨bool_w ?_, rfl⟩
  rw [Bool.eq_iff_iff]; simp [smallB]; try omega
theorem great_ok (x : Int) : PF 147 [uv x] (bv (greatB x)) := by
  refine AC_intro Tryz.func147 rfl Tryz.ntmps147 (Nat.le_of_ble_eq_true rfl) fun c hL hQ hDD => ?_; refine awp_seq ?_; refine awp_region ?_; refine awps_stp0 rfl rfl (by decide) (stp_move (.inr rfl) rfl) ?_; refine awps_nil ?_; refine thenQ_nil ?_; refine awp_seq ?_; refine awp_region ?_; refine awps_stp0 rfl rfl (by decide) (stp_move (.inl rfl) rfl) ?_; refine awps_stp0 rfl rfl (by decide) (stp_binI rfl rfl rfl rfl) ?_; refine awps_stp0 rfl rfl (by decide) (stp_move (.inl rfl) rfl) ?_; refine awps_split 5 rfl (fun g5 => ?_) (fun g5 => ?_)
  · try simp only [↓cqA, cqB] at g5
    refine awps_g0 rfl rfl rfl (by decide) rfl (by decide) (stp_move (.inl rfl) rfl) ?_; refine awps_g0 rfl rfl rfl (by decide) rfl (by decide) (stp_binI rfl rfl rfl rfl) ?_; refine awps_stp0 rfl rfl (by decide) (stp_pick rfl rfl rfl) ?_; refine awps_stp0 rfl rfl (by decide) (stp_move (.inr rfl) rfl) ?_; refine awps_nil ?_; refine thenQ_nil ?_; refine awp_ret ?_
    -- leaf g5T
    refine ret0 (noL hL) (.inl rfl) (resAs_tmp rfl (resAs_nil)) ?_ ?_
    · rfl
    refine ⟨bool_w ?_, rfl⟩
    rw [Bool.eq_iff_iff]; simp [greatB]; try omega
  try simp only [↓cqA, cqB] at g5
  refine awps_gs rfl rfl rfl rfl (by decide) rfl (by decide) ?_; refine awps_gs rfl rfl rfl rfl (by decide) rfl (by decide) ?_; refine awps_stp0 rfl rfl (by decide) (stp_pick rfl rfl rfl) ?_; refine awps_stp0 rfl rfl (by decide) (stp_move (.inr rfl) rfl) ?_; refine awps_nil ?_; refine thenQ_nil ?_; refine awp_ret ?_
  -- leaf g5F
  refine ret0 (noL hL) (.inl rfl) (resAs_tmp rfl (resAs_nil)) ?_ ?_
  · rfl
  refine ⟨bool_w ?_, rfl⟩
  rw [Bool.eq_iff_iff]; simp [greatB]; try omega
theorem Number_ok (x : Int) : PF 205 [iv x] (bv (numB x)) := by
  refine AC_intro Tryz.func205 rfl Tryz.ntmps205 (Nat.le_of_ble_eq_true rfl) fun c hL hQ hDD => ?_; refine awp_seq ?_; refine awp_region ?_; refine awps_stp0 rfl rfl (by decide) (stp_move (.inr rfl) rfl) ?_; refine awps_nil ?_; refine thenQ_nil ?_; refine awp_seq ?_; refine awp_region ?_; refine awps_stp0 rfl rfl (by decide) (stp_move (.inl rfl) rfl) ?_; refine awps_stp0 rfl rfl (by decide) (stp_binI rfl rfl rfl rfl) ?_; refine awps_stp0 rfl rfl (by decide) (stp_move (.inl rfl) rfl) ?_; refine awps_split 5 rfl (fun g5 => ?_) (fun g5 => ?_)
  · try simp only [↓cqA, cqB] at g5
    refine awps_g0 rfl rfl rfl (by decide) rfl (by decide) (stp_move (.inl rfl) rfl) ?_; refine awps_g0 rfl rfl rfl (by decide) rfl (by decide) (stp_binI rfl rfl rfl rfl) ?_; refine awps_stp0 rfl rfl (by decide) (stp_pick rfl rfl rfl) ?_; refine awps_stp0 rfl rfl (by decide) (stp_move (.inr rfl) rfl) ?_; refine awps_nil ?_; refine thenQ_nil ?_; refine awp_ret ?_
    -- leaf g5T
    refine ret0 (noL hL) (.inl rfl) (resAs_tmp rfl (resAs_nil)) ?_ ?_
    · rfl
    refine ⟨bool_w ?_, rfl⟩
    rw [Bool.eq_iff_iff]; simp [numB]; try omega
  try simp only [↓cqA, cqB] at g5
  refine awps_gs rfl rfl rfl rfl (by decide) rfl (by decide) ?_; refine awps_gs rfl rfl rfl rfl (by decide) rfl (by decide) ?_; refine awps_stp0 rfl rfl (by decide) (stp_pick rfl rfl rfl) ?_; refine awps_stp0 rfl rfl (by decide) (stp_move (.inr rfl) rfl) ?_; refine awps_nil ?_; refine thenQ_nil ?_; refine awp_ret ?_
  -- leaf g5F
  refine ret0 (noL hL) (.inl rfl) (resAs_tmp rfl (resAs_nil)) ?_ ?_
  · rfl
  refine ⟨bool_w ?_, rfl⟩
  rw [Bool.eq_iff_iff]; simp [numB]; try omega
theorem Inner_ok (x : Int) : PF 204 [uv x] (bv (innerB x)) := by
  refine AC_intro Tryz.func204 rfl Tryz.ntmps204 (Nat.le_of_ble_eq_true rfl) fun c hL hQ hDD => ?_; refine awp_seq ?_; refine awp_region ?_; refine awps_stp0 rfl rfl (by decide) (stp_move (.inr rfl) rfl) ?_; refine awps_nil ?_; refine thenQ_nil ?_; refine awp_seq ?_; refine awp_region ?_; refine awps_stp0 rfl rfl (by decide) (stp_move (.inl rfl) rfl) ?_; refine awps_call (avs := [_]) true rfl rfl rfl (by decide) en_term_small rfl rfl (small_ok _) rfl rfl ?_; refine awps_stp0 rfl rfl (by decide) (stp_move (.inl rfl) rfl) ?_; refine awps_split 5 rfl (fun g5 => ?_) (fun g5 => ?_)
  · try simp only [↓cqA, cqB] at g5
    refine awps_gs rfl rfl rfl rfl (by decide) rfl (by decide) ?_; refine awps_gs rfl rfl rfl rfl (by decide) rfl (by decide) ?_; refine awps_stp0 rfl rfl (by decide) (stp_pick rfl rfl rfl) ?_; refine awps_stp0 rfl rfl (by decide) (stp_move (.inl rfl) rfl) ?_; refine awps_gs rfl rfl rfl rfl (by decide) rfl (by decide) ?_; refine awps_gs rfl rfl rfl rfl (by decide) rfl (by decide) ?_
    refine awps_stp0 rfl rfl (by decide) (stp_pick rfl rfl rfl) ?_; refine awps_stp0 rfl rfl (by decide) (stp_move (.inl rfl) rfl) ?_; refine awps_gs rfl rfl rfl rfl (by decide) rfl (by decide) ?_; refine awps_gs rfl rfl rfl rfl (by decide) rfl (by decide) ?_; refine awps_stp0 rfl rfl (by decide) (stp_pick rfl rfl rfl) ?_; refine awps_stp0 rfl rfl (by decide) (stp_move (.inr rfl) rfl) ?_; refine awps_nil ?_; refine thenQ_nil ?_; refine awp_ret ?_
    -- leaf g5T
    refine ret0 (noL hL) (.inl rfl) (resAs_tmp rfl (resAs_nil)) ?_ ?_
    · rfl
    refine ⟨bool_w ?_, rfl⟩
    simp_all [innerB]; try rfl
  try simp only [↓cqA, cqB] at g5
  refine awps_g0 rfl rfl rfl (by decide) rfl (by decide) (stp_move (.inl rfl) rfl) ?_; refine awps_g0 rfl rfl rfl (by decide) rfl (by decide) (stp_call (avs := [_]) true rfl en_term_great rfl rfl (great_ok _) (fun _ => rfl) rfl) ?_; refine awps_stp0 rfl rfl (by decide) (stp_pick rfl rfl rfl) ?_; refine awps_stp0 rfl rfl (by decide) (stp_move (.inl rfl) rfl) ?_; refine awps_split 9 rfl (fun g9 => ?_) (fun g9 => ?_)
  · try simp only [↓cqA, cqB] at g9
    refine awps_gs rfl rfl rfl rfl (by decide) rfl (by decide) ?_; refine awps_gs rfl rfl rfl rfl (by decide) rfl (by decide) ?_; refine awps_stp0 rfl rfl (by decide) (stp_pick rfl rfl rfl) ?_; refine awps_stp0 rfl rfl (by decide) (stp_move (.inl rfl) rfl) ?_; refine awps_gs rfl rfl rfl rfl (by decide) rfl (by decide) ?_; refine awps_gs rfl rfl rfl rfl (by decide) rfl (by decide) ?_; refine awps_stp0 rfl rfl (by decide) (stp_pick rfl rfl rfl) ?_; refine awps_stp0 rfl rfl (by decide) (stp_move (.inr rfl) rfl) ?_; refine awps_nil ?_; refine thenQ_nil ?_; refine awp_ret ?_
    -- leaf g5Fg9T
    refine ret0 (noL hL) (.inl rfl) (resAs_tmp rfl (resAs_nil)) ?_ ?_
    · rfl
    refine ⟨bool_w ?_, rfl⟩
    simp_all [innerB]; try rfl
  try simp only [↓cqA, cqB] at g9
  refine awps_g0 rfl rfl rfl (by decide) rfl (by decide) (stp_move (.inl rfl) rfl) ?_; refine awps_g0 rfl rfl rfl (by decide) rfl (by decide) (stp_call (avs := [_]) true rfl en_term_digit rfl rfl (digit_ok _) (fun _ => rfl) rfl) ?_; refine awps_stp0 rfl rfl (by decide) (stp_pick rfl rfl rfl) ?_; refine awps_stp0 rfl rfl (by decide) (stp_move (.inl rfl) rfl) ?_; refine awps_split 13 rfl (fun g13 => ?_) (fun g13 => ?_)
  · try simp only [↓cqA, cqB] at g13
    refine awps_gs rfl rfl rfl rfl (by decide) rfl (by decide) ?_; refine awps_gs rfl rfl rfl rfl (by decide) rfl (by decide) ?_; refine awps_stp0 rfl rfl (by decide) (stp_pick rfl rfl rfl) ?_; refine awps_stp0 rfl rfl (by decide) (stp_move (.inr rfl) rfl) ?_; refine awps_nil ?_; refine thenQ_nil ?_; refine awp_ret ?_
    -- leaf g5Fg9Fg13T
    refine ret0 (noL hL) (.inl rfl) (resAs_tmp rfl (resAs_nil)) ?_ ?_
    · rfl
    refine ⟨bool_w ?_, rfl⟩
    simp_all [innerB]; try rfl
  try simp only [↓cqA, cqB] at g13
  refine awps_g0 rfl rfl rfl (by decide) rfl (by decide) (stp_move (.inl rfl) rfl) ?_; refine awps_g0 rfl rfl rfl (by decide) rfl (by decide) (stp_binI rfl rfl rfl rfl) ?_; refine awps_stp0 rfl rfl (by decide) (stp_pick rfl rfl rfl) ?_; refine awps_stp0 rfl rfl (by decide) (stp_move (.inr rfl) rfl) ?_; refine awps_nil ?_; refine thenQ_nil ?_; refine awp_ret ?_
  -- leaf g5Fg9Fg13F
  refine ret0 (noL hL) (.inl rfl) (resAs_tmp rfl (resAs_nil)) ?_ ?_
  · rfl
  refine ⟨bool_w ?_, rfl⟩
  simp_all [innerB]; try rfl
def wordB (p : Int → Bool) (s : ByteArray) : Bool := decide (s.size ≠ 0) && decide (s.size ≤ 16) && p (byteAt s 0) && (List.range s.size).all (fun i => innerB (byteAt s i))
def nameB (s : ByteArray) : Bool := wordB smallB s
def varB (s : ByteArray) : Bool := wordB greatB s
theorem word_ok (s : ByteArray) (p : Int → Bool) (g : FuncId) (hen : Enters Tryz.prog g) (hg : ∀ x, PF g [uv x] (bv (p x))) : PF 146 [sv s, .fn g []] (bv (wordB p s)) := by
  refine AC_intro Tryz.func146 rfl Tryz.ntmps146 (Nat.le_of_ble_eq_true rfl) fun c hL hQ hDD => ?_; refine awp_seq ?_; refine awp_region ?_; refine awps_stp0 rfl rfl (by decide) (stp_move (.inr rfl) rfl) ?_; refine awps_nil ?_; refine thenQ_nil ?_; refine awp_seq ?_; refine awp_seq ?_; refine awp_region ?_; refine awps_stp0 rfl rfl (by decide) (stp_move (.inl rfl) rfl) ?_; refine awps_stp0 rfl rfl (by decide) (stp_binS rfl rfl rfl rfl) ?_; refine awps_stp0 rfl rfl (by decide) (stp_move (.inl rfl) rfl) ?_; refine awps_split 8 rfl (fun g8 => ?_) (fun g8 => ?_)
  · try simp only [↓cqA, cqB] at g8
    refine awps_gs rfl rfl rfl rfl (by decide) rfl (by decide) ?_; refine awps_gs rfl rfl rfl rfl (by decide) rfl (by decide) ?_; refine awps_gs rfl rfl rfl rfl (by decide) rfl (by decide) ?_; refine awps_stp0 rfl rfl (by decide) (stp_pick rfl rfl rfl) ?_; refine awps_stp0 rfl rfl (by decide) (stp_move (.inl rfl) rfl) ?_; refine awps_gs rfl rfl rfl rfl (by decide) rfl (by decide) ?_
    refine awps_gs rfl rfl rfl rfl (by decide) rfl (by decide) ?_; refine awps_gs rfl rfl rfl rfl (by decide) rfl (by decide) ?_; refine awps_gs rfl rfl rfl rfl (by decide) rfl (by decide) ?_; refine awps_gs rfl rfl rfl rfl (by decide) rfl (by decide) ?_; refine awps_stp0 rfl rfl (by decide) (stp_pick rfl rfl rfl) ?_; refine awps_nil ?_; refine thenQ_nil ?_; refine awp_condT rfl ?_; refine awp_seq ?_; refine awp_region ?_; refine awps_stp0 rfl rfl (by decide) (stp_move (.inr rfl) rfl) ?_; refine awps_nil ?_; refine thenQ_nil ?_; refine awp_ret ?_; refine thenQ_ret (?_)
    -- leaf g8T
    refine ret0 (noL hL) (.inl rfl) (resAs_tmp rfl (resAs_nil)) ?_ ?_
    · rfl
    refine ⟨bool_w ?_, rfl⟩
    simp [wordB, size_zero.2 g8]
  try simp only [↓cqA, cqB] at g8
  have h0 : s.size ≠ 0 := mt size_zero.1 g8
  refine awps_g0 rfl rfl rfl (by decide) rfl (by decide) (stp_move (.inl rfl) rfl) ?_; refine awps_g0 rfl rfl rfl (by decide) rfl (by decide) (stp_len_str rfl ul_string rfl) ?_; refine awps_g0 rfl rfl rfl (by decide) rfl (by decide) (stp_binI rfl rfl rfl rfl) ?_; refine awps_stp0 rfl rfl (by decide) (stp_pick rfl rfl rfl) ?_; refine awps_stp0 rfl rfl (by decide) (stp_move (.inl rfl) rfl) ?_; refine awps_split 13 rfl (fun g13 => ?_) (fun g13 => ?_)
  · try simp only [↓cqA, cqB] at g13
    refine awps_gs rfl rfl rfl rfl (by decide) rfl (by decide) ?_; refine awps_gs rfl rfl rfl rfl (by decide) rfl (by decide) ?_; refine awps_gs rfl rfl rfl rfl (by decide) rfl (by decide) ?_; refine awps_gs rfl rfl rfl rfl (by decide) rfl (by decide) ?_; refine awps_gs rfl rfl rfl rfl (by decide) rfl (by decide) ?_; refine awps_stp0 rfl rfl (by decide) (stp_pick rfl rfl rfl) ?_
    refine awps_nil ?_; refine thenQ_nil ?_; refine awp_condT rfl ?_; refine awp_seq ?_; refine awp_region ?_; refine awps_stp0 rfl rfl (by decide) (stp_move (.inr rfl) rfl) ?_; refine awps_nil ?_; refine thenQ_nil ?_; refine awp_ret ?_; refine thenQ_ret (?_)
    -- leaf g8Fg13T
    refine ret0 (noL hL) (.inl rfl) (resAs_tmp rfl (resAs_nil)) ?_ ?_
    · rfl
    refine ⟨bool_w ?_, rfl⟩
    simp [wordB]; omega
  try simp only [↓cqA, cqB] at g13
  refine awps_g0 rfl rfl rfl (by decide) rfl (by decide) (stp_move (.inl rfl) rfl) ?_; refine awps_g0 rfl rfl rfl (by decide) rfl (by decide) (stp_move (.inl rfl) rfl) ?_; refine awps_g0 rfl rfl rfl (by decide) rfl (by decide) (stp_index_str rfl ul_string rfl rfl (by decide) (by omega)) ?_
  refine awps_g0 rfl rfl rfl (by decide) rfl (by decide) (stp_call (avs := [_]) true rfl hen rfl rfl (hg _) (fun _ => rfl) rfl) ?_; refine awps_g0 rfl rfl rfl (by decide) rfl (by decide) (stp_not rfl rfl) ?_; refine awps_stp0 rfl rfl (by decide) (stp_pick rfl rfl rfl) ?_; refine awps_nil ?_; refine thenQ_nil ?_; refine awp_cond rfl (fun c0 => ?_) (fun c0 => ?_)
  · try simp only [↓cqA, cqB] at c0
    refine awp_seq ?_; refine awp_region ?_; refine awps_stp0 rfl rfl (by decide) (stp_move (.inr rfl) rfl) ?_; refine awps_nil ?_; refine thenQ_nil ?_; refine awp_ret ?_; refine thenQ_ret (?_)
    -- leaf g8Fg13F0T
    refine ret0 (noL hL) (.inl rfl) (resAs_tmp rfl (resAs_nil)) ?_ ?_
    · rfl
    refine ⟨bool_w ?_, rfl⟩
    simp [wordB, c0]
  try simp only [↓cqA, cqB] at c0
  refine awp_skip ?_; refine thenQ_nil ?_; refine awp_seq ?_; refine awp_seq ?_; refine awp_region ?_; refine awps_stp0 rfl rfl (by decide) (stp_move (.inl rfl) rfl) ?_; refine awps_stp0 rfl rfl (by decide) (stp_len_str rfl ul_string rfl) ?_; refine awps_stp0 rfl rfl (by decide) (stp_move (.inl rfl) rfl) ?_; refine awps_nil ?_; refine thenQ_nil ?_; refine awp_block ?_
  refine awp_while (s.size) (fun k => k ≤ s.size ∧ ∀ j, j < k → innerB (byteAt s j) = true) (fun k => ⟨[(0, .imm (.string s)), (21, iv s.size), (22, iv (k : Int))], []⟩) (⟨by omega, fun j hj => absurd hj (by omega)⟩) ?_ (fun k hk hp => ?_)
  · exact sub_re (SubT.cons (lk_eq rfl (by first | rfl | simp)) (SubT.cons (lk_eq rfl (by first | rfl | simp)) (SubT.cons (lk_eq rfl (by first | rfl | simp)) (SubT.nil)))) (SubO.nil) rfl rfl (noL' (noL hL) _)
  refine awp_seq ?_; refine awp_region ?_; refine awps_stp0 rfl rfl (by decide) (stp_binI rfl rfl rfl rfl) ?_; refine awps_nil ?_; refine thenQ_nil ?_; refine awp_seq ?_; refine awp_cond rfl (fun c1 => ?_) (fun c1 => ?_)
  · try simp only [↓cqA, cqB] at c1
    refine awp_skip ?_; refine thenQ_nil ?_; refine awp_seq ?_; refine awp_block ?_; refine awp_seq ?_; refine awp_region ?_; refine awps_stp0 rfl rfl (by decide) (stp_move (.inl rfl) rfl) ?_; refine awps_stp0 rfl rfl (by decide) (stp_move (.inr rfl) rfl) ?_; refine awps_nil ?_; refine thenQ_nil ?_; refine awp_seq ?_; refine awp_region ?_
    refine awps_stp0 rfl rfl (by decide) (stp_move (.inl rfl) rfl) ?_; refine awps_stp0 rfl rfl (by decide) (stp_move (.inl rfl) rfl) ?_; refine awps_stp0 rfl rfl (by decide) (stp_index_str rfl ul_string rfl rfl (by omega) (by omega)) ?_; refine awps_call (avs := [_]) true rfl rfl rfl (by decide) en_term_Inner rfl rfl (Inner_ok _) rfl rfl ?_; refine awps_stp0 rfl rfl (by decide) (stp_not rfl rfl) ?_; refine awps_nil ?_; refine thenQ_nil ?_; refine awp_cond rfl (fun c2 => ?_) (fun c2 => ?_)
    · try simp only [↓cqA, cqB] at c2
      refine awp_seq ?_; refine awp_region ?_; refine awps_stp0 rfl rfl (by decide) (stp_move (.inr rfl) rfl) ?_; refine awps_nil ?_; refine thenQ_nil ?_; refine awp_ret ?_; refine inQ_ret (thenQ_ret (thenQ_ret (inQ_ret (thenQ_ret (?_)))))
      -- leaf g8Fg13F0F1T2T
      refine ret0 (noL hL) (.inl rfl) (resAs_tmp rfl (resAs_nil)) ?_ ?_
      · rfl
      refine ⟨bool_w ?_, rfl⟩
      symm; simp only [wordB, Bool.and_eq_false_iff]; right
      rw [List.all_eq_false]; exact ⟨k, by simp; omega, by simp [c2]⟩
    try simp only [↓cqA, cqB] at c2
    refine awp_skip ?_; refine inQ_nil ?_; refine thenQ_nil ?_; refine awp_region ?_; refine awps_stp0 rfl rfl (by decide) (stp_add rfl rfl rfl (by omega)) ?_; refine awps_stp0 rfl rfl (by decide) (stp_move (.inl rfl) rfl) ?_; refine awps_nil ?_; refine thenQ_nil ?_; refine ⟨?_, ?_, ?_⟩
    · skip
      omega
    · skip
      refine ⟨by omega, fun j hj => ?_⟩
      by_cases hjk : j < k
      · exact hp.2 j hjk
      · rw [show j = k by omega]; exact c2
    exact sub_re (SubT.cons (lk_eq rfl (by first | rfl | simp)) (SubT.cons (lk_eq rfl (by first | rfl | simp)) (SubT.cons (lk_eq rfl (by first | rfl | simp)) (SubT.nil)))) (SubO.nil) rfl rfl (noL' (noL hL) _)
  try simp only [↓cqA, cqB] at c1
  refine awp_exit ?_; refine thenQ_exit (thenQ_exit (inQ_hit ?_)); refine thenQ_nil ?_; refine awp_seq ?_; refine awp_region ?_; refine awps_stp0 rfl rfl (by decide) (stp_move (.inr rfl) rfl) ?_; refine awps_nil ?_; refine thenQ_nil ?_; refine awp_ret ?_
  -- leaf g8Fg13F0F1F
  refine ret0 (noL hL) (.inl rfl) (resAs_tmp rfl (resAs_nil)) ?_ ?_
  · rfl
  refine ⟨bool_w ?_, rfl⟩
  symm; simp only [wordB, Bool.and_eq_true, decide_eq_true_eq, List.all_eq_true, List.mem_range]
  exact ⟨⟨⟨h0, by omega⟩, c0⟩, fun j hj => hp.2 j (by omega)⟩
theorem Name_ok (s : ByteArray) : PF 207 [sv s] (bv (nameB s)) := by
  refine AC_intro Tryz.func207 rfl Tryz.ntmps207 (Nat.le_of_ble_eq_true rfl) fun c hL hQ hDD => ?_; refine awp_seq ?_; refine awp_region ?_; refine awps_stp0 rfl rfl (by decide) (stp_move (.inr rfl) rfl) ?_; refine awps_nil ?_; refine thenQ_nil ?_; refine awp_seq ?_; refine awp_region ?_; refine awps_stp0 rfl rfl (by decide) (stp_move (.inl rfl) rfl) ?_
  refine awps_call (avs := [_, _]) true rfl rfl rfl (by decide) en_term_word rfl rfl (word_ok s smallB _ en_term_small small_ok) rfl rfl ?_; refine awps_stp0 rfl rfl (by decide) (stp_move (.inr rfl) rfl) ?_; refine awps_nil ?_; refine thenQ_nil ?_; refine awp_ret ?_
  -- leaf 
  refine ret0 (noL hL) (.inl rfl) (resAs_tmp rfl (resAs_nil)) ?_ ?_
  · rfl
  exact ⟨rfl, rfl⟩
theorem Var_ok (s : ByteArray) : PF 87 [sv s] (bv (varB s)) := by
  refine AC_intro Tryz.func87 rfl Tryz.ntmps87 (Nat.le_of_ble_eq_true rfl) fun c hL hQ hDD => ?_; refine awp_seq ?_; refine awp_region ?_; refine awps_stp0 rfl rfl (by decide) (stp_move (.inr rfl) rfl) ?_; refine awps_nil ?_; refine thenQ_nil ?_; refine awp_seq ?_; refine awp_region ?_; refine awps_stp0 rfl rfl (by decide) (stp_move (.inl rfl) rfl) ?_
  refine awps_call (avs := [_, _]) true rfl rfl rfl (by decide) en_term_word rfl rfl (word_ok s greatB _ en_term_great great_ok) rfl rfl ?_; refine awps_stp0 rfl rfl (by decide) (stp_move (.inr rfl) rfl) ?_; refine awps_nil ?_; refine thenQ_nil ?_; refine awp_ret ?_
  -- leaf 
  refine ret0 (noL hL) (.inl rfl) (resAs_tmp rfl (resAs_nil)) ?_ ?_
  · rfl
  exact ⟨rfl, rfl⟩
end Go.Proofs.YtdecgkhdbfgldaaGreat

set_option linter.unusedVariables false
set_option maxRecDepth 8000
namespace Go.Proofs.YtdecgkhdbfgldaaGreat
open Go Go.RowKit
theorem top_calls {f : FuncId} {ds : List D} {w : World} {cs : Array Value} (h : PF f [.agg (lift false ds)] (bv true)) (hr : RepVs w (Here w) ds cs.toList) : Calls Tryz.prog f #[.agg cs] w fun e w' => e = .returned (.bool true) ∧ Below w.heap.size w w' := by
  let c : Ctx := ⟨w, fun _ => False, Here w, fun _ => undef, fun _ => False, fun _ => False, False, fun _ => False⟩
  let S : Bool → Nat → Prop := fun f b => f = false ∧ b < w.heap.size
  have e0 : (fun b => S false b) = Here w := funext fun b => propext ⟨fun h => h.2, fun h => ⟨rfl, h⟩⟩
  have e1 : S false = Here w := e0
  obtain ⟨h1, h2⟩ := RepVs.rep (w := w) (ρ := fun _ => undef) (S := S) (U := St.U ⟨argT 0 [.agg (lift false ds)], []⟩) (ds := ds) (vs := cs.toList) (by rw [e1]; exact hr)
  have hrep : Rep w (fun _ => undef) S (St.U ⟨argT 0 [.agg (lift false ds)], []⟩) (.agg (lift false ds)) (.agg cs) := by
    simp only [Rep]
    exact ⟨cs.toList, by simp, h2, h1⟩
  have hc : Conc c 1 ⟨argT 0 [.agg (lift false ds)], []⟩ ⟨#[.agg cs], []⟩ w (fun _ => undef) S := by
    refine ⟨rfl, rfl, fun t v ht => ?_, fun l o hl => (by simp [ok] at hl), fun l l' o o' b hl => (by simp [ok] at hl), fun l o b f hl => (by simp [ok] at hl), fun l o b hl => (by simp [ok] at hl), fun l o b hl => (by simp [ok] at hl), fun b hb => (by cases hb.1.1), fun f b hb => hb.2, fun b hb => (by cases hb.1), fun b hb => .inl hb.2, fun l hl => hl.elim, Fm.start (c := c) (fun _ h => h.elim) (fun _ h => h.elim) (fun b h => (by cases h.1))⟩
    simp only [argT, lk_cons] at ht
    split at ht
    · rename_i e; subst e; simp only [Option.some.injEq] at ht; subst ht; exact hrep
    · simp [lk] at ht
  refine (h c w [.agg cs] (fun _ => undef) S rfl (fun l => ⟨fun h => h.elim, fun h => by simp [inD, ok] at h⟩) ⟨fun b hb => (by cases hb.1), fun b h => h⟩ ⟨⟨fun h => h.elim⟩⟩ hc).mono ?_
  rintro e w' ⟨v, r, O', rfl, ⟨rfl, rfl⟩, ρ', S', hc'⟩
  have hv := hc'.T 0 _ rfl
  simp only [Rep] at hv
  have hv' : v = .bool true := by simpa using hv
  subst hv'
  have hf := hc'.fm
  exact ⟨rfl, hf.os, hf.tape, hf.output, hf.size, fun b hb => hf.block b hb (fun h => h)⟩
theorem own : ownKnob Tryz.prog.godebug = none := by kernel_rfl
theorem and2 {a b : Bool} (h : a = true) (k : b = true) : (a && b) = true := by rw [h, k]; rfl
theorem laidOut : laidOutB Tryz.prog = true := by kernel_rfl
theorem mapsRowed_ok : mapsRowed Tryz.prog = true := by kernel_rfl
theorem stopsHeard_ok : Tryz.prog.stopsHeard = true := by kernel_rfl
theorem mayEnter_ok : Tryz.prog.mayEnter = true := by kernel_rfl
end Go.Proofs.YtdecgkhdbfgldaaGreat

set_option linter.unusedVariables false
set_option linter.unusedSimpArgs false
set_option maxRecDepth 8000
namespace Go.Proofs.YtdecgkhdbfgldaaGreat
open Go
structure Thread (B : Bool) (caps : List AV) (Os : Nat → List (Nat × Ob)) : Prop where
  dom : ∀ k l, inD (Os k) l = inD (Os 0) l
  pass : ∀ k, PassO B (Os k) (Os k)
  cvs : ∀ k, AV.cvs B (Os k) (inD (Os k)) caps = caps
  cvs0 : ∀ k, AV.cvs B (Os k) (inD (Os k)) caps = caps
  all : ∀ k, AV.allLs (inD (Os k)) caps = true
  self : ∀ k, allO (inD (Os k)) (Os k) = true
  q : B = true → ∀ k, allOQ (fun f => f) (Os k) = true
theorem Thread.nil (B : Bool) (caps : List AV) (h : AV.cvs B [] (inD []) caps = caps) (k : AV.allLs (inD []) caps = true) : Thread B caps (fun _ => []) where
  dom _ _ := rfl
  pass _ := PassO.nil
  cvs _ := h
  cvs0 _ := h
  all _ := k
  self _ := rfl
  q _ _ := rfl
theorem IndexFunc_tm_ok (B : Bool) (ts : List Tm) (es : List (List D)) (hes : es = ts.map tmD) (hlen : ts.length ≤ 140737488351232) (g : FuncId) (caps : List AV) (hen : Enters Tryz.prog g) (Os : Nat → List (Nat × Ob)) (p : Nat → Bool) (hO : Thread B caps Os)
    (hstep : ∀ k u, ts[k]? = some u → (∀ j, j < k → p j = false) → AC Tryz.prog g (tmA false u :: caps) (Os k) (fun r O => r = bv (p k) ∧ O = Os (k + 1))) :
    AC Tryz.prog 253 [.dat false 4 es, .fn g caps] (Os 0) (fun r O => ∃ m n i, m ≤ ts.length ∧ (∀ j, j < m → p j = false) ∧ ((m < ts.length ∧ p m = true ∧ i = (m : Int) ∧ n = m + 1) ∨ (m = ts.length ∧ i = -1 ∧ n = m)) ∧ r = iv i ∧ O = Os n) := by
  have hl : es.length = ts.length := by rw [hes, List.length_map]
  refine AC_intro Tryz.func253 rfl Tryz.ntmps253 (Nat.le_of_ble_eq_true rfl) fun c hL hQ hDD => ?_; refine awp_seq ?_; refine awp_region ?_; refine awps_stp0 rfl rfl (by decide) (stp_move (.inr rfl) rfl) ?_; refine awps_nil ?_; refine thenQ_nil ?_; refine awp_seq ?_; refine awp_seq ?_; refine awp_region ?_; refine awps_stp0 rfl rfl (by decide) (stp_move (.inl rfl) rfl) ?_; refine awps_stp0 rfl rfl (by decide) (stp_len_dat rfl sl_S_api_Term rfl) ?_
  refine awps_stp0 rfl rfl (by decide) (stp_move (.inl rfl) rfl) ?_; refine awps_nil ?_; refine thenQ_nil ?_; refine awp_block ?_; refine awp_while (ts.length) (fun k => k ≤ ts.length ∧ ∀ j, j < k → p j = false) (fun k => ⟨[(0, .dat false 4 es), (1, .fn g caps), (7, iv es.length), (8, iv (k : Int))], Os k⟩) (⟨by omega, fun j hj => absurd hj (by omega)⟩) ?_ (fun k hk hp => ?_)
  · exact sub_re (SubT.cons (lk_eq rfl (by first | rfl | simp)) (SubT.cons (lk_eq rfl (by first | rfl | simp)) (SubT.cons (lk_eq rfl (by first | rfl | simp)) (SubT.cons (lk_eq rfl (by first | rfl | simp)) (SubT.nil))))) (fun _ _ h => h) (by simp [allT, AV.allL, hO.all]) (hO.self _) (fun l hl => by rw [hO.dom]; exact (hL l).1 hl)
  refine awp_seq ?_; refine awp_region ?_; refine awps_stp0 rfl rfl (by decide) (stp_binI rfl rfl rfl rfl) ?_; refine awps_nil ?_; refine thenQ_nil ?_; refine awp_seq ?_; refine awp_cond rfl (fun c0 => ?_) (fun c0 => ?_)
  · try simp only [↓cqA, cqB] at c0
    obtain ⟨u, hu⟩ := get_of_lt (l := ts) (k := k) (by omega)
    refine awp_skip ?_; refine thenQ_nil ?_; refine awp_seq ?_; refine awp_block ?_; refine awp_seq ?_; refine awp_region ?_; refine awps_stp0 rfl rfl (by decide) (stp_move (.inl rfl) rfl) ?_; refine awps_stp0 rfl rfl (by decide) (stp_move (.inr rfl) rfl) ?_; refine awps_nil ?_; refine thenQ_nil ?_; refine awp_seq ?_; refine awp_region ?_; refine awps_stp0 rfl rfl (by decide) (stp_move (.inl rfl) rfl) ?_; refine awps_stp0 rfl rfl (by decide) (stp_move (.inl rfl) rfl) ?_; refine awps_stp0 rfl rfl (by decide) (stp_move (.inl rfl) rfl) ?_
    refine awps_stp0 rfl rfl (by decide) (stp_indexAddr rfl sl_S_api_Term rfl rfl (by omega) (by rw [hes, List.getElem?_map]; exact congrArg (Option.map tmD) hu)) ?_; refine awps_stp0 rfl rfl (by decide) (stp_load_elpa rfl tf_api_Term rfl rfl) ?_; refine awps_callP (avs := [_]) B rfl rfl rfl (by decide) hen rfl rfl (hstep k u hu hp.2) (by rw [List.cons_append, List.nil_append]; simp only [AV.cvs, hO.cvs]; rfl) (hO.pass k) (by rintro r O' ⟨_, rfl⟩ l hl; left; rw [hO.dom] at hl ⊢; exact hl) (by rintro hB r O' ⟨rfl, rfl⟩; exact ⟨rfl, hO.q hB _⟩) ?_
    rintro r O' ⟨rfl, rfl⟩
    refine awps_nil ?_; refine thenQ_nil ?_; refine awp_cond rfl (fun c1 => ?_) (fun c1 => ?_)
    · try simp only [↓cqA, cqB] at c1
      refine awp_seq ?_; refine awp_region ?_; refine awps_stp0 rfl rfl (by decide) (stp_move (.inl rfl) rfl) ?_; refine awps_stp0 rfl rfl (by decide) (stp_move (.inr rfl) rfl) ?_; refine awps_nil ?_; refine thenQ_nil ?_; refine awp_ret ?_; refine inQ_ret (thenQ_ret (thenQ_ret (inQ_ret (thenQ_ret (?_)))))
      change retQ _ _ _ _ _ _ _
      refine retO (.inl rfl) (resAs_tmp rfl resAs_nil) SubO.left rfl (hO.self _) (fun l hl => by rw [hO.dom]; exact (hL l).1 hl) ?_
      exact ⟨k, _, _, by omega, hp.2, .inl ⟨by omega, c1, rfl, rfl⟩, rfl, rfl⟩
    try simp only [↓cqA, cqB] at c1
    refine awp_skip ?_; refine inQ_nil ?_; refine thenQ_nil ?_; refine awp_region ?_; refine awps_stp0 rfl rfl (by decide) (stp_add rfl rfl rfl (by omega)) ?_; refine awps_stp0 rfl rfl (by decide) (stp_move (.inl rfl) rfl) ?_; refine awps_nil ?_; refine thenQ_nil ?_; refine ⟨?_, ?_, ?_⟩
    · skip
      omega
    · skip
      refine ⟨by omega, fun j hj => ?_⟩
      by_cases hjk : j < k
      · exact hp.2 j hjk
      · rw [show j = k by omega]; exact c1
    exact sub_re (SubT.cons (lk_eq rfl (by first | rfl | simp)) (SubT.cons (lk_eq rfl (by first | rfl | simp)) (SubT.cons (lk_eq rfl (by first | rfl | simp)) (SubT.cons (lk_eq rfl (by first | rfl | simp)) (SubT.nil))))) (SubO.left) (by simp [allT, AV.allL, hO.all]) (hO.self _) (fun l hl => by rw [hO.dom]; exact (hL l).1 hl)
  try simp only [↓cqA, cqB] at c0
  refine awp_exit ?_; refine thenQ_exit (thenQ_exit (inQ_hit ?_)); refine thenQ_nil ?_; refine awp_seq ?_; refine awp_region ?_; refine awps_stp0 rfl rfl (by decide) (stp_move (.inr rfl) rfl) ?_; refine awps_nil ?_; refine thenQ_nil ?_; refine awp_ret ?_
  change retQ _ _ _ _ _ _ _
  refine retO (.inl rfl) (resAs_tmp rfl resAs_nil) (fun _ _ h => h) rfl (hO.self _) (fun l hl => by rw [hO.dom]; exact (hL l).1 hl) ?_
  exact ⟨k, _, _, by omega, hp.2, .inr ⟨by omega, rfl, rfl⟩, rfl, rfl⟩
theorem ContainsFunc_tm_ok (B : Bool) (ts : List Tm) (es : List (List D)) (hes : es = ts.map tmD) (hlen : ts.length ≤ 140737488351232) (g : FuncId) (caps : List AV) (hen : Enters Tryz.prog g) (Os : Nat → List (Nat × Ob)) (p : Nat → Bool) (hO : Thread B caps Os)
    (hstep : ∀ k u, ts[k]? = some u → (∀ j, j < k → p j = false) → AC Tryz.prog g (tmA false u :: caps) (Os k) (fun r O => r = bv (p k) ∧ O = Os (k + 1))) :
    AC Tryz.prog 208 [.dat false 4 es, .fn g caps] (Os 0) (fun r O => ∃ m n b, m ≤ ts.length ∧ (∀ j, j < m → p j = false) ∧ ((m < ts.length ∧ p m = true ∧ b = true ∧ n = m + 1) ∨ (m = ts.length ∧ b = false ∧ n = m)) ∧ r = bv b ∧ O = Os n) := by
  refine AC_intro Tryz.func208 rfl Tryz.ntmps208 (Nat.le_of_ble_eq_true rfl) fun c hL hQ hDD => ?_; refine awp_seq ?_; refine awp_region ?_; refine awps_stp0 rfl rfl (by decide) (stp_move (.inr rfl) rfl) ?_; refine awps_nil ?_; refine thenQ_nil ?_; refine awp_seq ?_; refine awp_region ?_; refine awps_stp0 rfl rfl (by decide) (stp_move (.inl rfl) rfl) ?_; refine awps_stp0 rfl rfl (by decide) (stp_move (.inl rfl) rfl) ?_
  refine awps_callP (avs := [_, _]) B rfl rfl rfl (by decide) en_slices_IndexFunc_api_Term_api_Term rfl rfl (IndexFunc_tm_ok B ts es hes hlen g caps hen Os p hO hstep) (by simp only [List.append_nil, AV.cvs, AV.cv, hO.cvs]; rfl) (hO.pass 0) (by rintro r O' ⟨m, n, i, _, _, _, _, rfl⟩ l hl; left; rw [hO.dom] at hl ⊢; exact hl) (by rintro hB r O' ⟨m, n, i, _, _, _, rfl, rfl⟩; exact ⟨rfl, hO.q hB _⟩) ?_
  rintro r O' ⟨m, n, i, hm, hf, hc, rfl, rfl⟩
  refine awps_stp0 rfl rfl (by decide) (stp_binI rfl rfl rfl rfl) ?_; refine awps_stp0 rfl rfl (by decide) (stp_move (.inr rfl) rfl) ?_; refine awps_nil ?_; refine thenQ_nil ?_; refine awp_ret ?_
  -- leaf 
  change retQ _ _ _ _ _ _ _
  refine retO (.inl rfl) (resAs_tmp rfl resAs_nil) SubO.left rfl (hO.self _) (fun l hl => by rw [hO.dom]; exact (hL l).1 hl) ?_; refine ⟨m, n, _, hm, hf, ?_, rfl, rfl⟩
  rcases hc with ⟨h1, h2, rfl, h3⟩ | ⟨h1, rfl, h3⟩
  · exact .inl ⟨h1, h2, by simp, h3⟩
  · exact .inr ⟨h1, by simp, h3⟩
def mayL (f : Tm → Int → Bool × Int) : List Tm → Int → Bool × Int
  | [], n => (true, n)
  | a :: l, n => if (f a n).1 then mayL f l (f a n).2 else (false, (f a n).2)
def mayS : Nat → Tm → Int → Bool × Int
  | 0, _, n => (false, n - 1)
  | d + 1, t, n =>
    if n - 1 < 0 then (false, n - 1)
    else if t.kind = 1 then (varB t.name && decide (t.n = 0) && decide (t.args.length = 0), n - 1)
    else if t.kind = 2 then (numB t.n && decide (t.name.size = 0) && decide (t.args.length = 0), n - 1)
    else if t.kind = 3 then (if nameB t.name && decide (t.n = 0) && decide (t.args.length ≤ 4) then mayL (mayS d) t.args (n - 1) else (false, n - 1))
    else (false, n - 1)
theorem mayL_range (f : Tm → Int → Bool × Int) (h : ∀ t n, 0 ≤ n → -1 ≤ (f t n).2 ∧ (f t n).2 ≤ n ∧ ((f t n).1 = true → 0 ≤ (f t n).2)) : ∀ (l : List Tm) (n : Int), 0 ≤ n → -1 ≤ (mayL f l n).2 ∧ (mayL f l n).2 ≤ n ∧ ((mayL f l n).1 = true → 0 ≤ (mayL f l n).2)
  | [], n, hn => by simp [mayL]; omega
  | a :: l, n, hn => by
    have h1 := h a n hn
    simp only [mayL]
    split
    · rename_i hb
      have := mayL_range f h l (f a n).2 (h1.2.2 hb)
      exact ⟨this.1, by omega, this.2.2⟩
    · exact ⟨h1.1, h1.2.1, by simp⟩
theorem mayS_range : ∀ (d : Nat) (t : Tm) (n : Int), 0 ≤ n → -1 ≤ (mayS d t n).2 ∧ (mayS d t n).2 ≤ n ∧ ((mayS d t n).1 = true → 0 ≤ (mayS d t n).2)
  | 0, t, n, hn => by simp [mayS]; omega
  | d + 1, t, n, hn => by
    simp only [mayS]
    split
    · simp; omega
    split
    · simp; omega
    split
    · simp; omega
    split
    · split
      · have := mayL_range (mayS d) (fun t n hn => mayS_range d t n hn) t.args (n - 1) (by omega)
        exact ⟨this.1, by omega, this.2.2⟩
      · simp; omega
    · simp; omega
def mayK0 (f : Tm → Int → Bool × Int) : Nat → List Tm → Int → Int
  | 0, _, n => n
  | _ + 1, [], n => n
  | k + 1, a :: l, n => mayK0 f k l (f a n).2
def mayK (f : Tm → Int → Bool × Int) (l : List Tm) (n : Int) (k : Nat) : Int := mayK0 f k l n
def mayP (f : Tm → Int → Bool × Int) : List Tm → Int → Nat → Bool
  | [], _, _ => false
  | a :: _, n, 0 => !(f a n).1
  | a :: l, n, k + 1 => mayP f l (f a n).2 k
theorem mayK_step (f : Tm → Int → Bool × Int) : ∀ (l : List Tm) (n : Int) (k : Nat) (u : Tm), l[k]? = some u → (∀ j, j < k → mayP f l n j = false) → mayP f l n k = !(f u (mayK f l n k)).1 ∧ mayK f l n (k + 1) = (f u (mayK f l n k)).2
  | [], n, k, u, hu, _ => by simp at hu
  | a :: l, n, 0, u, hu, _ => by
    simp only [List.getElem?_cons_zero, Option.some.injEq] at hu
    subst hu
    cases l <;> simp [mayP, mayK, mayK0]
  | a :: l, n, k + 1, u, hu, h => by
    simpa only [mayP, mayK, mayK0] using mayK_step f l (f a n).2 k u (by simpa using hu) (fun j hj => by simpa [mayP] using h (j + 1) (by omega))
theorem mayK_range (f : Tm → Int → Bool × Int) (h : ∀ t n, 0 ≤ n → -1 ≤ (f t n).2 ∧ (f t n).2 ≤ n ∧ ((f t n).1 = true → 0 ≤ (f t n).2)) : ∀ (l : List Tm) (n : Int) (k : Nat), 0 ≤ n → (∀ j, j < k → mayP f l n j = false) → k ≤ l.length → 0 ≤ mayK f l n k ∧ mayK f l n k ≤ n
  | l, n, 0, hn, _, _ => by cases l <;> simp [mayK, mayK0] <;> omega
  | [], n, k + 1, hn, _, hk => by simp at hk
  | a :: l, n, k + 1, hn, hj, hk => by
    have h0 := hj 0 (by omega)
    simp only [mayP, Bool.not_eq_false'] at h0
    have h1 := h a n hn
    have := mayK_range f h l (f a n).2 k (h1.2.2 h0) (fun j hj' => by simpa [mayP] using hj (j + 1) (by omega)) (by simpa using hk)
    simp only [mayK, mayK0] at this ⊢; omega
theorem mayL_end (f : Tm → Int → Bool × Int) : ∀ (l : List Tm) (n : Int) (m k : Nat) (b : Bool), (∀ j, j < m → mayP f l n j = false) → ((m < l.length ∧ mayP f l n m = true ∧ b = true ∧ k = m + 1) ∨ (m = l.length ∧ b = false ∧ k = m)) → mayL f l n = (!b, mayK f l n k)
  | [], n, m, k, b, _, hc => by
    rcases hc with ⟨h, _⟩ | ⟨rfl, rfl, rfl⟩
    · simp at h
    · simp [mayL, mayK, mayK0]
  | a :: l, n, 0, k, b, _, hc => by
    rcases hc with ⟨_, h, rfl, rfl⟩ | ⟨h, _⟩
    · simp only [mayP, Bool.not_eq_true'] at h
      cases l <;> simp [mayL, mayK, mayK0, h]
    · simp at h
  | a :: l, n, m + 1, k, b, hj, hc => by
    have h0 := hj 0 (by omega)
    simp only [mayP, Bool.not_eq_false'] at h0
    obtain ⟨k, rfl⟩ : ∃ k', k = k' + 1 := by rcases hc with ⟨_, _, _, rfl⟩ | ⟨_, _, rfl⟩ <;> exact ⟨_, rfl⟩
    have := mayL_end f l (f a n).2 m k b (fun j hj' => by simpa [mayP] using hj (j + 1) (by omega)) (by
      rcases hc with ⟨h1, h2, h3, h4⟩ | ⟨h1, h2, h3⟩
      · exact .inl ⟨by simpa using h1, by simpa [mayP] using h2, h3, by omega⟩
      · exact .inr ⟨by simpa using h1, h2, by omega⟩)
    simp only [mayL, h0, if_true, this, mayK, mayK0]
def MayC (d : Nat) : Prop := ∀ (e : Int), e = d → ∀ (t : Tm) (n : Int), t.wf → 0 ≤ n → n ≤ 24 → AC Tryz.prog 148 [tmA false t, iv e, .ptr 0 0] [(0, .box [iv n])] (fun r O => r = bv (mayS d t n).1 ∧ O = [(0, .box [iv (mayS d t n).2])])
theorem may1_ok (d : Nat) (hd : d < 5) (ih : MayC d) (e : Int) (he : e = d + 1) (t : Tm) (n : Int) (ht : t.wf) (h0 : 0 ≤ n) (h1 : n ≤ 24) : AC Tryz.prog 206 [tmA false t, .ptr 4 0, .ptr 5 0] [(4, .box [iv e]), (5, .box [.ptr 0 0]), (0, .box [iv n])]
    (fun r O => r = bv (!(mayS d t n).1) ∧ O = [(4, .box [iv e]), (5, .box [.ptr 0 0]), (0, .box [iv (mayS d t n).2])]) := by
  refine AC_intro Tryz.func206 rfl Tryz.ntmps206 (Nat.le_of_ble_eq_true rfl) fun c hL hQ hDD => ?_; refine awp_seq ?_; refine awp_region ?_; refine awps_stp1 rfl rfl (by decide) (stp_box 3 rfl rfl rfl) rfl ?_; refine awps_stp0 rfl rfl (by decide) (stp_move (.inr rfl) rfl) ?_; refine awps_nil ?_; refine thenQ_nil ?_; refine awp_seq ?_; refine awp_region ?_; refine awps_stp0 rfl rfl (by decide) (stp_load_all rfl tf_api_Term rfl rfl rfl rfl) ?_; refine awps_stp0 rfl rfl (by decide) (stp_load rfl tf_int rfl rfl rfl rfl rfl) ?_
  refine awps_stp0 rfl rfl (by decide) (stp_sub rfl rfl rfl (by omega)) ?_; refine awps_stp0 rfl rfl (by decide) (stp_load rfl tf_P_int rfl rfl rfl rfl rfl) ?_; refine awps_callP (avs := [_, _, _]) true rfl rfl rfl (by decide) en_term_may rfl rfl (ih (e - 1) (by omega) t n ht h0 h1) (rfl) (passO (.cons rfl trivial rfl .nil)) (by rintro r O' ⟨rfl, rfl⟩ l hl; exact .inl ((inD_dom (by rfl) l).trans hl)) (by rintro - r O' ⟨rfl, rfl⟩; exact ⟨rfl, rfl⟩) ?_
  rintro r O' ⟨rfl, rfl⟩
  refine awps_stp0 rfl rfl (by decide) (stp_not rfl rfl) ?_; refine awps_stp0 rfl rfl (by decide) (stp_move (.inr rfl) rfl) ?_; refine awps_nil ?_; refine thenQ_nil ?_; refine awp_ret ?_
  -- leaf 
  change retQ _ _ _ _ _ _ _
  refine retO (O' := [(4, _), (5, _), (0, _)]) (.inl rfl) (resAs_tmp rfl resAs_nil) (SubO.cons rfl (SubO.cons rfl (SubO.cons rfl SubO.nil))) ?_ ?_ ?_ ?_
  · rfl
  · rfl
  · exact LO hL rfl
  · exact ⟨rfl, rfl⟩
theorem mayfin {D : Nat} {t : Tm} {n m : Int} {b : Bool} (h : mayS D t n = (b, m)) : resV [bv b] = bv (mayS D t n).1 ∧ [(0, Ob.box [iv m])] = [(0, Ob.box [iv (mayS D t n).2])] := by rw [h]; exact ⟨rfl, rfl⟩
theorem may_ok : ∀ d : Nat, d ≤ 5 → MayC d := by
  intro d
  induction d with
  | zero =>
    intro hd e he t n ht h0 h1
    refine AC_intro Tryz.func148 rfl Tryz.ntmps148 (Nat.le_of_ble_eq_true rfl) fun c hL hQ hDD => ?_; refine awp_seq ?_; refine awp_region ?_; refine awps_stp1 rfl rfl (by decide) (stp_box 3 rfl rfl rfl) rfl ?_; refine awps_stp1 rfl rfl (by decide) (stp_box 4 rfl rfl rfl) rfl ?_; refine awps_stp1 rfl rfl (by decide) (stp_box 5 rfl rfl rfl) rfl ?_; refine awps_stp0 rfl rfl (by decide) (stp_move (.inr rfl) rfl) ?_; refine awps_nil ?_; refine thenQ_nil ?_; refine awp_seq ?_; refine awp_region ?_; refine awps_stp0 rfl rfl (by decide) (stp_load rfl tf_P_int rfl rfl rfl rfl rfl) ?_
    refine awps_stp0 rfl rfl (by decide) (stp_nilCheck rfl rfl) ?_; refine awps_stp0 rfl rfl (by decide) (stp_load rfl tf_int rfl rfl rfl rfl rfl) ?_; refine awps_stp0 rfl rfl (by decide) (stp_sub rfl rfl rfl (by omega)) ?_; refine awps_stp0 rfl rfl (by decide) (stp_nilCheck rfl rfl) ?_; refine awps_store rfl rfl rfl tf_int rfl rfl rfl rfl rfl rfl rfl rfl rfl ?_; refine awps_nil ?_; refine thenQ_nil ?_; refine awp_seq ?_; refine awp_seq ?_; refine awp_region ?_; refine awps_stp0 rfl rfl (by decide) (stp_load rfl tf_int rfl rfl rfl rfl rfl) ?_
    refine awps_stp0 rfl rfl (by decide) (stp_binI rfl rfl rfl rfl) ?_; refine awps_stp0 rfl rfl (by decide) (stp_move (.inl rfl) rfl) ?_; refine awps_split 15 rfl (fun g15 => ?_) (fun g15 => ?_)
    · try simp only [↓cqA, cqB] at g15
      refine awps_gs rfl rfl rfl rfl (by decide) rfl (by decide) ?_; refine awps_gs rfl rfl rfl rfl (by decide) rfl (by decide) ?_; refine awps_gs rfl rfl rfl rfl (by decide) rfl (by decide) ?_; refine awps_gs rfl rfl rfl rfl (by decide) rfl (by decide) ?_; refine awps_stp0 rfl rfl (by decide) (stp_pick rfl rfl rfl) ?_; refine awps_nil ?_; refine thenQ_nil ?_; refine awp_condT rfl ?_; refine awp_seq ?_; refine awp_region ?_; refine awps_stp0 rfl rfl (by decide) (stp_move (.inr rfl) rfl) ?_; refine awps_nil ?_; refine thenQ_nil ?_; refine awp_ret ?_; refine thenQ_ret (?_)
      -- leaf g15T
      change retQ _ _ _ _ _ _ _
      refine retO (O' := [(0, _)]) (.inl rfl) (resAs_tmp rfl resAs_nil) (SubO.cons rfl SubO.nil) ?_ ?_ ?_ ?_
      · rfl
      · rfl
      · exact LO hL rfl
      exact mayfin (by simp [mayS])
    try simp only [↓cqA, cqB] at g15
    omega
  | succ d ih =>
    intro hd e he t n ht h0 h1
    have hlen := tmDs_length t.args
    have hal := ht.2.2.2.1
    refine AC_intro Tryz.func148 rfl Tryz.ntmps148 (Nat.le_of_ble_eq_true rfl) fun c hL hQ hDD => ?_; refine awp_seq ?_; refine awp_region ?_; refine awps_stp1 rfl rfl (by decide) (stp_box 3 rfl rfl rfl) rfl ?_; refine awps_stp1 rfl rfl (by decide) (stp_box 4 rfl rfl rfl) rfl ?_; refine awps_stp1 rfl rfl (by decide) (stp_box 5 rfl rfl rfl) rfl ?_; refine awps_stp0 rfl rfl (by decide) (stp_move (.inr rfl) rfl) ?_; refine awps_nil ?_; refine thenQ_nil ?_; refine awp_seq ?_; refine awp_region ?_; refine awps_stp0 rfl rfl (by decide) (stp_load rfl tf_P_int rfl rfl rfl rfl rfl) ?_
    refine awps_stp0 rfl rfl (by decide) (stp_nilCheck rfl rfl) ?_; refine awps_stp0 rfl rfl (by decide) (stp_load rfl tf_int rfl rfl rfl rfl rfl) ?_; refine awps_stp0 rfl rfl (by decide) (stp_sub rfl rfl rfl (by omega)) ?_; refine awps_stp0 rfl rfl (by decide) (stp_nilCheck rfl rfl) ?_; refine awps_store rfl rfl rfl tf_int rfl rfl rfl rfl rfl rfl rfl rfl rfl ?_; refine awps_nil ?_; refine thenQ_nil ?_; refine awp_seq ?_; refine awp_seq ?_; refine awp_region ?_; refine awps_stp0 rfl rfl (by decide) (stp_load rfl tf_int rfl rfl rfl rfl rfl) ?_
    refine awps_stp0 rfl rfl (by decide) (stp_binI rfl rfl rfl rfl) ?_; refine awps_stp0 rfl rfl (by decide) (stp_move (.inl rfl) rfl) ?_; refine awps_split 15 rfl (fun g15 => ?_) (fun g15 => ?_)
    · try simp only [↓cqA, cqB] at g15
      omega
    try simp only [↓cqA, cqB] at g15
    refine awps_g0 rfl rfl rfl (by decide) rfl (by decide) (stp_load rfl tf_P_int rfl rfl rfl rfl rfl) ?_; refine awps_g0 rfl rfl rfl (by decide) rfl (by decide) (stp_nilCheck rfl rfl) ?_; refine awps_g0 rfl rfl rfl (by decide) rfl (by decide) (stp_load rfl tf_int rfl rfl rfl rfl rfl) ?_; refine awps_g0 rfl rfl rfl (by decide) rfl (by decide) (stp_binI rfl rfl rfl rfl) ?_; refine awps_stp0 rfl rfl (by decide) (stp_pick rfl rfl rfl) ?_; refine awps_nil ?_; refine thenQ_nil ?_; refine awp_cond rfl (fun c0 => ?_) (fun c0 => ?_)
    · try simp only [↓cqA, cqB] at c0
      refine awp_seq ?_; refine awp_region ?_; refine awps_stp0 rfl rfl (by decide) (stp_move (.inr rfl) rfl) ?_; refine awps_nil ?_; refine thenQ_nil ?_; refine awp_ret ?_; refine thenQ_ret (?_)
      change retQ _ _ _ _ _ _ _
      refine retO (O' := [(0, _)]) (.inl rfl) (resAs_tmp rfl resAs_nil) (SubO.cons rfl SubO.nil) ?_ ?_ ?_ ?_
      · rfl
      · rfl
      · exact LO hL rfl
      refine mayfin ?_
      rw [mayS, if_pos (by omega)]
    try simp only [↓cqA, cqB] at c0
    refine awp_skip ?_; refine thenQ_nil ?_; refine awp_seq ?_; refine awp_seq ?_; refine awp_region ?_; refine awps_stp0 rfl rfl (by decide) (stp_fieldAddr rfl fo_api_Term_0 rfl) ?_; refine awps_stp0 rfl rfl (by decide) (stp_load rfl tf_int rfl rfl rfl rfl rfl) ?_; refine awps_nil ?_; refine thenQ_nil ?_; refine awp_block ?_; refine awp_seq ?_; refine awp_region ?_; refine awps_stp0 rfl rfl (by decide) (stp_binI rfl rfl rfl rfl) ?_; refine awps_stp0 rfl rfl (by decide) (stp_move (.inr rfl) rfl) ?_; refine awps_nil ?_; refine thenQ_nil ?_; refine awp_cond rfl (fun c1 => ?_) (fun c1 => ?_)
    · try simp only [↓cqA, cqB] at c1
      refine awp_seq ?_; refine awp_region ?_; refine awps_stp0 rfl rfl (by decide) (stp_fieldAddr rfl fo_api_Term_1 rfl) ?_; refine awps_stp0 rfl rfl (by decide) (stp_load rfl tf_string rfl rfl rfl rfl rfl) ?_; refine awps_call (avs := [_]) true rfl rfl rfl (by decide) en_term_Var rfl rfl (Var_ok _) rfl rfl ?_; refine awps_stp0 rfl rfl (by decide) (stp_move (.inl rfl) rfl) ?_; refine awps_split 28 rfl (fun g28 => ?_) (fun g28 => ?_)
      · try simp only [↓cqA, cqB] at g28
        refine awps_g0 rfl rfl rfl (by decide) rfl (by decide) (stp_fieldAddr rfl fo_api_Term_2 rfl) ?_; refine awps_g0 rfl rfl rfl (by decide) rfl (by decide) (stp_load rfl tf_int rfl rfl rfl rfl rfl) ?_; refine awps_g0 rfl rfl rfl (by decide) rfl (by decide) (stp_binI rfl rfl rfl rfl) ?_; refine awps_stp0 rfl rfl (by decide) (stp_pick rfl rfl rfl) ?_; refine awps_stp0 rfl rfl (by decide) (stp_move (.inl rfl) rfl) ?_; refine awps_split 33 rfl (fun g33 => ?_) (fun g33 => ?_)
        · try simp only [↓cqA, cqB] at g33
          refine awps_g0 rfl rfl rfl (by decide) rfl (by decide) (stp_fieldAddr rfl fo_api_Term_3 rfl) ?_; refine awps_g0 rfl rfl rfl (by decide) rfl (by decide) (stp_load rfl tf_S_api_Term rfl rfl rfl rfl rfl) ?_; refine awps_g0 rfl rfl rfl (by decide) rfl (by decide) (stp_len_dat rfl sl_S_api_Term rfl) ?_
          refine awps_g0 rfl rfl rfl (by decide) rfl (by decide) (stp_binI rfl rfl rfl rfl) ?_; refine awps_stp0 rfl rfl (by decide) (stp_pick rfl rfl rfl) ?_; refine awps_stp0 rfl rfl (by decide) (stp_move (.inr rfl) rfl) ?_; refine awps_nil ?_; refine thenQ_nil ?_; refine awp_ret ?_; refine inQ_ret (thenQ_ret (?_))
          -- leaf g15F0F1Tg28Tg33T
          change retQ _ _ _ _ _ _ _
          refine retO (O' := [(0, _)]) (.inl rfl) (resAs_tmp rfl resAs_nil) (SubO.cons rfl SubO.nil) ?_ ?_ ?_ ?_
          · rfl
          · rfl
          · exact LO hL rfl
          refine mayfin ?_
          rw [mayS, if_neg (by omega)]
          simp_all [natBeq0]
          try (intro hx; omega)
        try simp only [↓cqA, cqB] at g33
        refine awps_gs rfl rfl rfl rfl (by decide) rfl (by decide) ?_; refine awps_gs rfl rfl rfl rfl (by decide) rfl (by decide) ?_; refine awps_gs rfl rfl rfl rfl (by decide) rfl (by decide) ?_; refine awps_gs rfl rfl rfl rfl (by decide) rfl (by decide) ?_; refine awps_stp0 rfl rfl (by decide) (stp_pick rfl rfl rfl) ?_; refine awps_stp0 rfl rfl (by decide) (stp_move (.inr rfl) rfl) ?_; refine awps_nil ?_; refine thenQ_nil ?_; refine awp_ret ?_; refine inQ_ret (thenQ_ret (?_))
        -- leaf g15F0F1Tg28Tg33F
        change retQ _ _ _ _ _ _ _
        refine retO (O' := [(0, _)]) (.inl rfl) (resAs_tmp rfl resAs_nil) (SubO.cons rfl SubO.nil) ?_ ?_ ?_ ?_
        · rfl
        · rfl
        · exact LO hL rfl
        refine mayfin ?_
        rw [mayS, if_neg (by omega)]
        simp_all [natBeq0]
        try (intro hx; omega)
      try simp only [↓cqA, cqB] at g28
      refine awps_gs rfl rfl rfl rfl (by decide) rfl (by decide) ?_; refine awps_gs rfl rfl rfl rfl (by decide) rfl (by decide) ?_; refine awps_gs rfl rfl rfl rfl (by decide) rfl (by decide) ?_; refine awps_stp0 rfl rfl (by decide) (stp_pick rfl rfl rfl) ?_; refine awps_stp0 rfl rfl (by decide) (stp_move (.inl rfl) rfl) ?_; refine awps_gs rfl rfl rfl rfl (by decide) rfl (by decide) ?_
      refine awps_gs rfl rfl rfl rfl (by decide) rfl (by decide) ?_; refine awps_gs rfl rfl rfl rfl (by decide) rfl (by decide) ?_; refine awps_gs rfl rfl rfl rfl (by decide) rfl (by decide) ?_; refine awps_stp0 rfl rfl (by decide) (stp_pick rfl rfl rfl) ?_; refine awps_stp0 rfl rfl (by decide) (stp_move (.inr rfl) rfl) ?_; refine awps_nil ?_; refine thenQ_nil ?_; refine awp_ret ?_; refine inQ_ret (thenQ_ret (?_))
      -- leaf g15F0F1Tg28F
      change retQ _ _ _ _ _ _ _
      refine retO (O' := [(0, _)]) (.inl rfl) (resAs_tmp rfl resAs_nil) (SubO.cons rfl SubO.nil) ?_ ?_ ?_ ?_
      · rfl
      · rfl
      · exact LO hL rfl
      refine mayfin ?_
      rw [mayS, if_neg (by omega)]
      simp_all [natBeq0]
      try (intro hx; omega)
    try simp only [↓cqA, cqB] at c1
    refine awp_seq ?_; refine awp_region ?_; refine awps_stp0 rfl rfl (by decide) (stp_binI rfl rfl rfl rfl) ?_; refine awps_stp0 rfl rfl (by decide) (stp_move (.inr rfl) rfl) ?_; refine awps_nil ?_; refine thenQ_nil ?_; refine awp_cond rfl (fun c2 => ?_) (fun c2 => ?_)
    · try simp only [↓cqA, cqB] at c2
      refine awp_seq ?_; refine awp_region ?_; refine awps_stp0 rfl rfl (by decide) (stp_fieldAddr rfl fo_api_Term_2 rfl) ?_; refine awps_stp0 rfl rfl (by decide) (stp_load rfl tf_int rfl rfl rfl rfl rfl) ?_; refine awps_call (avs := [_]) true rfl rfl rfl (by decide) en_term_Number rfl rfl (Number_ok _) rfl rfl ?_; refine awps_stp0 rfl rfl (by decide) (stp_move (.inl rfl) rfl) ?_; refine awps_split 44 rfl (fun g44 => ?_) (fun g44 => ?_)
      · try simp only [↓cqA, cqB] at g44
        refine awps_g0 rfl rfl rfl (by decide) rfl (by decide) (stp_fieldAddr rfl fo_api_Term_1 rfl) ?_; refine awps_g0 rfl rfl rfl (by decide) rfl (by decide) (stp_load rfl tf_string rfl rfl rfl rfl rfl) ?_; refine awps_g0 rfl rfl rfl (by decide) rfl (by decide) (stp_binS rfl rfl rfl rfl) ?_; refine awps_stp0 rfl rfl (by decide) (stp_pick rfl rfl rfl) ?_; refine awps_stp0 rfl rfl (by decide) (stp_move (.inl rfl) rfl) ?_; refine awps_split 49 rfl (fun g49 => ?_) (fun g49 => ?_)
        · try simp only [↓cqA, cqB] at g49
          have g49 := size_zero.2 g49
          refine awps_g0 rfl rfl rfl (by decide) rfl (by decide) (stp_fieldAddr rfl fo_api_Term_3 rfl) ?_; refine awps_g0 rfl rfl rfl (by decide) rfl (by decide) (stp_load rfl tf_S_api_Term rfl rfl rfl rfl rfl) ?_; refine awps_g0 rfl rfl rfl (by decide) rfl (by decide) (stp_len_dat rfl sl_S_api_Term rfl) ?_
          refine awps_g0 rfl rfl rfl (by decide) rfl (by decide) (stp_binI rfl rfl rfl rfl) ?_; refine awps_stp0 rfl rfl (by decide) (stp_pick rfl rfl rfl) ?_; refine awps_stp0 rfl rfl (by decide) (stp_move (.inr rfl) rfl) ?_; refine awps_nil ?_; refine thenQ_nil ?_; refine awp_ret ?_; refine inQ_ret (thenQ_ret (?_))
          -- leaf g15F0F1F2Tg44Tg49T
          change retQ _ _ _ _ _ _ _
          refine retO (O' := [(0, _)]) (.inl rfl) (resAs_tmp rfl resAs_nil) (SubO.cons rfl SubO.nil) ?_ ?_ ?_ ?_
          · rfl
          · rfl
          · exact LO hL rfl
          refine mayfin ?_
          rw [mayS, if_neg (by omega)]
          simp_all [natBeq0]
          try (intro hx; omega)
        try simp only [↓cqA, cqB] at g49
        have g49 : ¬ t.name.size = 0 := mt size_zero.1 g49
        refine awps_gs rfl rfl rfl rfl (by decide) rfl (by decide) ?_; refine awps_gs rfl rfl rfl rfl (by decide) rfl (by decide) ?_; refine awps_gs rfl rfl rfl rfl (by decide) rfl (by decide) ?_; refine awps_gs rfl rfl rfl rfl (by decide) rfl (by decide) ?_; refine awps_stp0 rfl rfl (by decide) (stp_pick rfl rfl rfl) ?_; refine awps_stp0 rfl rfl (by decide) (stp_move (.inr rfl) rfl) ?_; refine awps_nil ?_; refine thenQ_nil ?_; refine awp_ret ?_; refine inQ_ret (thenQ_ret (?_))
        -- leaf g15F0F1F2Tg44Tg49F
        change retQ _ _ _ _ _ _ _
        refine retO (O' := [(0, _)]) (.inl rfl) (resAs_tmp rfl resAs_nil) (SubO.cons rfl SubO.nil) ?_ ?_ ?_ ?_
        · rfl
        · rfl
        · exact LO hL rfl
        refine mayfin ?_
        rw [mayS, if_neg (by omega)]
        simp_all [natBeq0]
        try (intro hx; omega)
      try simp only [↓cqA, cqB] at g44
      refine awps_gs rfl rfl rfl rfl (by decide) rfl (by decide) ?_; refine awps_gs rfl rfl rfl rfl (by decide) rfl (by decide) ?_; refine awps_gs rfl rfl rfl rfl (by decide) rfl (by decide) ?_; refine awps_stp0 rfl rfl (by decide) (stp_pick rfl rfl rfl) ?_; refine awps_stp0 rfl rfl (by decide) (stp_move (.inl rfl) rfl) ?_; refine awps_gs rfl rfl rfl rfl (by decide) rfl (by decide) ?_
      refine awps_gs rfl rfl rfl rfl (by decide) rfl (by decide) ?_; refine awps_gs rfl rfl rfl rfl (by decide) rfl (by decide) ?_; refine awps_gs rfl rfl rfl rfl (by decide) rfl (by decide) ?_; refine awps_stp0 rfl rfl (by decide) (stp_pick rfl rfl rfl) ?_; refine awps_stp0 rfl rfl (by decide) (stp_move (.inr rfl) rfl) ?_; refine awps_nil ?_; refine thenQ_nil ?_; refine awp_ret ?_; refine inQ_ret (thenQ_ret (?_))
      -- leaf g15F0F1F2Tg44F
      change retQ _ _ _ _ _ _ _
      refine retO (O' := [(0, _)]) (.inl rfl) (resAs_tmp rfl resAs_nil) (SubO.cons rfl SubO.nil) ?_ ?_ ?_ ?_
      · rfl
      · rfl
      · exact LO hL rfl
      refine mayfin ?_
      rw [mayS, if_neg (by omega)]
      simp_all [natBeq0]
      try (intro hx; omega)
    try simp only [↓cqA, cqB] at c2
    refine awp_seq ?_; refine awp_region ?_; refine awps_stp0 rfl rfl (by decide) (stp_binI rfl rfl rfl rfl) ?_; refine awps_stp0 rfl rfl (by decide) (stp_move (.inr rfl) rfl) ?_; refine awps_nil ?_; refine thenQ_nil ?_; refine awp_cond rfl (fun c3 => ?_) (fun c3 => ?_)
    · try simp only [↓cqA, cqB] at c3
      refine awp_seq ?_; refine awp_region ?_; refine awps_stp0 rfl rfl (by decide) (stp_makeFunc (vs := [_, _]) rfl rfl) ?_; refine awps_stp0 rfl rfl (by decide) (stp_move (.inr rfl) rfl) ?_; refine awps_nil ?_; refine thenQ_nil ?_; refine awp_seq ?_; refine awp_region ?_; refine awps_stp0 rfl rfl (by decide) (stp_fieldAddr rfl fo_api_Term_1 rfl) ?_; refine awps_stp0 rfl rfl (by decide) (stp_load rfl tf_string rfl rfl rfl rfl rfl) ?_
      refine awps_call (avs := [_]) true rfl rfl rfl (by decide) en_term_Name rfl rfl (Name_ok _) rfl rfl ?_; refine awps_stp0 rfl rfl (by decide) (stp_move (.inl rfl) rfl) ?_; refine awps_split 61 rfl (fun g61 => ?_) (fun g61 => ?_)
      · try simp only [↓cqA, cqB] at g61
        refine awps_g0 rfl rfl rfl (by decide) rfl (by decide) (stp_fieldAddr rfl fo_api_Term_2 rfl) ?_; refine awps_g0 rfl rfl rfl (by decide) rfl (by decide) (stp_load rfl tf_int rfl rfl rfl rfl rfl) ?_; refine awps_g0 rfl rfl rfl (by decide) rfl (by decide) (stp_binI rfl rfl rfl rfl) ?_; refine awps_stp0 rfl rfl (by decide) (stp_pick rfl rfl rfl) ?_; refine awps_stp0 rfl rfl (by decide) (stp_move (.inl rfl) rfl) ?_; refine awps_split 66 rfl (fun g66 => ?_) (fun g66 => ?_)
        · try simp only [↓cqA, cqB] at g66
          refine awps_g0 rfl rfl rfl (by decide) rfl (by decide) (stp_fieldAddr rfl fo_api_Term_3 rfl) ?_; refine awps_g0 rfl rfl rfl (by decide) rfl (by decide) (stp_load rfl tf_S_api_Term rfl rfl rfl rfl rfl) ?_; refine awps_g0 rfl rfl rfl (by decide) rfl (by decide) (stp_len_dat rfl sl_S_api_Term rfl) ?_; refine awps_g0 rfl rfl rfl (by decide) rfl (by decide) (stp_binI rfl rfl rfl rfl) ?_; refine awps_stp0 rfl rfl (by decide) (stp_pick rfl rfl rfl) ?_; refine awps_stp0 rfl rfl (by decide) (stp_move (.inl rfl) rfl) ?_; refine awps_split 72 rfl (fun g72 => ?_) (fun g72 => ?_)
          · try simp only [↓cqA, cqB] at g72
            have g72 : t.args.length ≤ 4 := by omega
            refine awps_g0 rfl rfl rfl (by decide) rfl (by decide) (stp_fieldAddr rfl fo_api_Term_3 rfl) ?_; refine awps_g0 rfl rfl rfl (by decide) rfl (by decide) (stp_load rfl tf_S_api_Term rfl rfl rfl rfl rfl) ?_; refine awps_g0 rfl rfl rfl (by decide) rfl (by decide) (stp_move (.inl rfl) rfl) ?_
            have hst : ∀ k u, t.args[k]? = some u → (∀ j, j < k → mayP (mayS d) t.args (n - 1) j = false) → AC Tryz.prog 206 [tmA false u, .ptr 4 0, .ptr 5 0] [(4, .box [iv e]), (5, .box [.ptr 0 0]), (0, .box [iv (mayK (mayS d) t.args (n - 1) k)])]
                (fun r O => r = bv (mayP (mayS d) t.args (n - 1) k) ∧ O = [(4, .box [iv e]), (5, .box [.ptr 0 0]), (0, .box [iv (mayK (mayS d) t.args (n - 1) (k + 1))])]) := fun k u hu hj => by
              obtain ⟨e1, e2⟩ := mayK_step (mayS d) t.args (n - 1) k u hu hj
              have hkl : k < t.args.length := by have := List.getElem?_eq_some_iff.1 hu; exact this.1
              have hr := mayK_range (mayS d) (fun t n hn => mayS_range d t n hn) t.args (n - 1) k (by omega) hj (by omega)
              rw [e1, e2]
              exact may1_ok d (by omega) (ih (by omega)) e (by omega) u _ (Tm.wfs_get ht.2.2.2.2 hu) hr.1 (by omega)
            refine awps_gcallP (avs := [_, _]) true rfl rfl rfl (by decide) rfl rfl (by decide) en_slices_ContainsFunc_api_Term_api_Term rfl rfl (ContainsFunc_tm_ok true t.args _ (tmDs_map _) (by omega) _ [.ptr 4 0, .ptr 5 0] en_term_may_1 (fun k => [(4, .box [iv e]), (5, .box [.ptr 0 0]), (0, .box [iv (mayK (mayS d) t.args (n - 1) k)])]) (mayP (mayS d) t.args (n - 1)) ⟨fun k l => inD_dom (by rfl) l, fun k => passO (.cons rfl trivial rfl (.cons rfl trivial rfl (.cons rfl trivial rfl .nil))), fun k => rfl, fun k => rfl, fun k => rfl, fun k => rfl, fun _ k => rfl⟩ (fun k u hu hj => hst k u hu hj)) (rfl) (passO (.cons rfl trivial rfl (.cons rfl trivial rfl (.cons rfl trivial rfl .nil)))) (by rintro r O' ⟨m, k, b, _, _, _, _, rfl⟩ l hl; exact .inl ((inD_dom (by rfl) l).trans hl)) (by rintro - r O' ⟨m, k, b, _, _, _, rfl, rfl⟩; exact ⟨rfl, rfl⟩) ?_
            rintro r O' ⟨m, k, b, hm, hf, hc, rfl, rfl⟩
            refine awps_g0 rfl rfl rfl (by decide) rfl (by decide) (stp_not rfl rfl) ?_; refine awps_stp0 rfl rfl (by decide) (stp_pick rfl rfl rfl) ?_; refine awps_stp0 rfl rfl (by decide) (stp_move (.inr rfl) rfl) ?_; refine awps_nil ?_; refine thenQ_nil ?_; refine awp_ret ?_; refine inQ_ret (thenQ_ret (?_))
            change retQ _ _ _ _ _ _ _
            refine retO (O' := [(0, _)]) (.inl rfl) (resAs_tmp rfl resAs_nil) (SubO.cons rfl SubO.nil) ?_ ?_ ?_ ?_
            · rfl
            · rfl
            · exact LO hL rfl
            refine mayfin ?_
            rw [mayS, if_neg (by omega)]
            simp_all
            exact mayL_end (mayS d) t.args (n - 1) m k b hf hc
          try simp only [↓cqA, cqB] at g72
          have g72 : ¬ t.args.length ≤ 4 := by omega
          refine awps_gs rfl rfl rfl rfl (by decide) rfl (by decide) ?_; refine awps_gs rfl rfl rfl rfl (by decide) rfl (by decide) ?_; refine awps_gs rfl rfl rfl rfl (by decide) rfl (by decide) ?_
          have hst : ∀ k u, t.args[k]? = some u → (∀ j, j < k → mayP (mayS d) t.args (n - 1) j = false) → AC Tryz.prog 206 [tmA false u, .ptr 4 0, .ptr 5 0] [(4, .box [iv e]), (5, .box [.ptr 0 0]), (0, .box [iv (mayK (mayS d) t.args (n - 1) k)])]
              (fun r O => r = bv (mayP (mayS d) t.args (n - 1) k) ∧ O = [(4, .box [iv e]), (5, .box [.ptr 0 0]), (0, .box [iv (mayK (mayS d) t.args (n - 1) (k + 1))])]) := fun k u hu hj => by
            obtain ⟨e1, e2⟩ := mayK_step (mayS d) t.args (n - 1) k u hu hj
            have hkl : k < t.args.length := by have := List.getElem?_eq_some_iff.1 hu; exact this.1
            have hr := mayK_range (mayS d) (fun t n hn => mayS_range d t n hn) t.args (n - 1) k (by omega) hj (by omega)
            rw [e1, e2]
            exact may1_ok d (by omega) (ih (by omega)) e (by omega) u _ (Tm.wfs_get ht.2.2.2.2 hu) hr.1 (by omega)
          refine awps_gs rfl rfl rfl rfl (by decide) rfl (by decide) ?_; refine awps_gs rfl rfl rfl rfl (by decide) rfl (by decide) ?_; refine awps_stp0 rfl rfl (by decide) (stp_pick rfl rfl rfl) ?_; refine awps_stp0 rfl rfl (by decide) (stp_move (.inr rfl) rfl) ?_; refine awps_nil ?_; refine thenQ_nil ?_; refine awp_ret ?_; refine inQ_ret (thenQ_ret (?_))
          -- leaf g15F0F1F2F3Tg61Tg66Tg72F
          change retQ _ _ _ _ _ _ _
          refine retO (O' := [(0, _)]) (.inl rfl) (resAs_tmp rfl resAs_nil) (SubO.cons rfl SubO.nil) ?_ ?_ ?_ ?_
          · rfl
          · rfl
          · exact LO hL rfl
          refine mayfin ?_
          rw [mayS, if_neg (by omega)]
          simp_all [natBeq0]
          try (intro hx; omega)
        try simp only [↓cqA, cqB] at g66
        refine awps_gs rfl rfl rfl rfl (by decide) rfl (by decide) ?_; refine awps_gs rfl rfl rfl rfl (by decide) rfl (by decide) ?_; refine awps_gs rfl rfl rfl rfl (by decide) rfl (by decide) ?_; refine awps_gs rfl rfl rfl rfl (by decide) rfl (by decide) ?_; refine awps_stp0 rfl rfl (by decide) (stp_pick rfl rfl rfl) ?_; refine awps_stp0 rfl rfl (by decide) (stp_move (.inl rfl) rfl) ?_; refine awps_gs rfl rfl rfl rfl (by decide) rfl (by decide) ?_; refine awps_gs rfl rfl rfl rfl (by decide) rfl (by decide) ?_; refine awps_gs rfl rfl rfl rfl (by decide) rfl (by decide) ?_
        have hst : ∀ k u, t.args[k]? = some u → (∀ j, j < k → mayP (mayS d) t.args (n - 1) j = false) → AC Tryz.prog 206 [tmA false u, .ptr 4 0, .ptr 5 0] [(4, .box [iv e]), (5, .box [.ptr 0 0]), (0, .box [iv (mayK (mayS d) t.args (n - 1) k)])]
            (fun r O => r = bv (mayP (mayS d) t.args (n - 1) k) ∧ O = [(4, .box [iv e]), (5, .box [.ptr 0 0]), (0, .box [iv (mayK (mayS d) t.args (n - 1) (k + 1))])]) := fun k u hu hj => by
          obtain ⟨e1, e2⟩ := mayK_step (mayS d) t.args (n - 1) k u hu hj
          have hkl : k < t.args.length := by have := List.getElem?_eq_some_iff.1 hu; exact this.1
          have hr := mayK_range (mayS d) (fun t n hn => mayS_range d t n hn) t.args (n - 1) k (by omega) hj (by omega)
          rw [e1, e2]
          exact may1_ok d (by omega) (ih (by omega)) e (by omega) u _ (Tm.wfs_get ht.2.2.2.2 hu) hr.1 (by omega)
        refine awps_gs rfl rfl rfl rfl (by decide) rfl (by decide) ?_; refine awps_gs rfl rfl rfl rfl (by decide) rfl (by decide) ?_; refine awps_stp0 rfl rfl (by decide) (stp_pick rfl rfl rfl) ?_; refine awps_stp0 rfl rfl (by decide) (stp_move (.inr rfl) rfl) ?_; refine awps_nil ?_; refine thenQ_nil ?_; refine awp_ret ?_; refine inQ_ret (thenQ_ret (?_))
        -- leaf g15F0F1F2F3Tg61Tg66F
        change retQ _ _ _ _ _ _ _
        refine retO (O' := [(0, _)]) (.inl rfl) (resAs_tmp rfl resAs_nil) (SubO.cons rfl SubO.nil) ?_ ?_ ?_ ?_
        · rfl
        · rfl
        · exact LO hL rfl
        refine mayfin ?_
        rw [mayS, if_neg (by omega)]
        simp_all [natBeq0]
        try (intro hx; omega)
      try simp only [↓cqA, cqB] at g61
      refine awps_gs rfl rfl rfl rfl (by decide) rfl (by decide) ?_; refine awps_gs rfl rfl rfl rfl (by decide) rfl (by decide) ?_; refine awps_gs rfl rfl rfl rfl (by decide) rfl (by decide) ?_; refine awps_stp0 rfl rfl (by decide) (stp_pick rfl rfl rfl) ?_; refine awps_stp0 rfl rfl (by decide) (stp_move (.inl rfl) rfl) ?_; refine awps_gs rfl rfl rfl rfl (by decide) rfl (by decide) ?_
      refine awps_gs rfl rfl rfl rfl (by decide) rfl (by decide) ?_; refine awps_gs rfl rfl rfl rfl (by decide) rfl (by decide) ?_; refine awps_gs rfl rfl rfl rfl (by decide) rfl (by decide) ?_; refine awps_stp0 rfl rfl (by decide) (stp_pick rfl rfl rfl) ?_; refine awps_stp0 rfl rfl (by decide) (stp_move (.inl rfl) rfl) ?_; refine awps_gs rfl rfl rfl rfl (by decide) rfl (by decide) ?_; refine awps_gs rfl rfl rfl rfl (by decide) rfl (by decide) ?_; refine awps_gs rfl rfl rfl rfl (by decide) rfl (by decide) ?_
      have hst : ∀ k u, t.args[k]? = some u → (∀ j, j < k → mayP (mayS d) t.args (n - 1) j = false) → AC Tryz.prog 206 [tmA false u, .ptr 4 0, .ptr 5 0] [(4, .box [iv e]), (5, .box [.ptr 0 0]), (0, .box [iv (mayK (mayS d) t.args (n - 1) k)])]
          (fun r O => r = bv (mayP (mayS d) t.args (n - 1) k) ∧ O = [(4, .box [iv e]), (5, .box [.ptr 0 0]), (0, .box [iv (mayK (mayS d) t.args (n - 1) (k + 1))])]) := fun k u hu hj => by
        obtain ⟨e1, e2⟩ := mayK_step (mayS d) t.args (n - 1) k u hu hj
        have hkl : k < t.args.length := by have := List.getElem?_eq_some_iff.1 hu; exact this.1
        have hr := mayK_range (mayS d) (fun t n hn => mayS_range d t n hn) t.args (n - 1) k (by omega) hj (by omega)
        rw [e1, e2]
        exact may1_ok d (by omega) (ih (by omega)) e (by omega) u _ (Tm.wfs_get ht.2.2.2.2 hu) hr.1 (by omega)
      refine awps_gs rfl rfl rfl rfl (by decide) rfl (by decide) ?_; refine awps_gs rfl rfl rfl rfl (by decide) rfl (by decide) ?_; refine awps_stp0 rfl rfl (by decide) (stp_pick rfl rfl rfl) ?_; refine awps_stp0 rfl rfl (by decide) (stp_move (.inr rfl) rfl) ?_; refine awps_nil ?_; refine thenQ_nil ?_; refine awp_ret ?_; refine inQ_ret (thenQ_ret (?_))
      -- leaf g15F0F1F2F3Tg61F
      change retQ _ _ _ _ _ _ _
      refine retO (O' := [(0, _)]) (.inl rfl) (resAs_tmp rfl resAs_nil) (SubO.cons rfl SubO.nil) ?_ ?_ ?_ ?_
      · rfl
      · rfl
      · exact LO hL rfl
      refine mayfin ?_
      rw [mayS, if_neg (by omega)]
      simp_all [natBeq0]
      try (intro hx; omega)
    try simp only [↓cqA, cqB] at c3
    refine awp_skip ?_; refine inQ_nil ?_; refine thenQ_nil ?_; refine awp_seq ?_; refine awp_region ?_; refine awps_stp0 rfl rfl (by decide) (stp_move (.inr rfl) rfl) ?_; refine awps_nil ?_; refine thenQ_nil ?_; refine awp_ret ?_
    -- leaf g15F0F1F2F3F
    change retQ _ _ _ _ _ _ _
    refine retO (O' := [(0, _)]) (.inl rfl) (resAs_tmp rfl resAs_nil) (SubO.cons rfl SubO.nil) ?_ ?_ ?_ ?_
    · rfl
    · rfl
    · exact LO hL rfl
    refine mayfin ?_
    rw [mayS, if_neg (by omega)]
    simp_all [natBeq0]
    try (intro hx; omega)
def mayT (t : Tm) : Bool := (mayS 5 t 24).1
theorem May_ok (t : Tm) (ht : t.wf) : PF 88 [tmA false t] (bv (mayT t)) := by
  have key := AC_rnE 0 3 (may_ok 5 (by omega) 5 rfl t 24 ht (by omega) (by omega))
  refine AC_intro Tryz.func88 rfl Tryz.ntmps88 (Nat.le_of_ble_eq_true rfl) fun c hL hQ hDD => ?_; refine awp_seq ?_; refine awp_region ?_; refine awps_stp1 rfl rfl (by decide) (stp_box 1 rfl rfl rfl) rfl ?_; refine awps_stp0 rfl rfl (by decide) (stp_move (.inr rfl) rfl) ?_; refine awps_nil ?_; refine thenQ_nil ?_; refine awp_seq ?_; refine awp_region ?_; refine awps_stp1 rfl rfl (by decide) (stp_alloc 3 rfl zv_int rfl) rfl ?_; refine awps_store rfl rfl rfl tf_int rfl rfl rfl rfl rfl rfl rfl rfl rfl ?_; refine awps_nil ?_; refine thenQ_nil ?_; refine awp_seq ?_; refine awp_region ?_
  refine awps_stp0 rfl rfl (by decide) (stp_load_all rfl tf_api_Term rfl rfl rfl rfl) ?_; refine awps_callP (avs := [_, _, _]) true rfl rfl rfl (by decide) en_term_may rfl rfl (key) (rfl) (passO (.cons rfl trivial rfl .nil)) (by rintro r O' ⟨rfl, rfl⟩ l hl; exact .inl ((inD_dom (by rfl) l).trans hl)) (by rintro - r O' ⟨rfl, rfl⟩; exact ⟨rfl, rfl⟩) ?_
  rintro r O' ⟨rfl, rfl⟩
  refine awps_stp0 rfl rfl (by decide) (stp_move (.inr rfl) rfl) ?_; refine awps_nil ?_; refine thenQ_nil ?_; refine awp_ret ?_
  -- leaf 
  refine ret0 (noL hL) (.inl rfl) (resAs_tmp rfl (resAs_nil)) ?_ ?_
  · rfl
  exact ⟨rfl, rfl⟩
end Go.Proofs.YtdecgkhdbfgldaaGreat

set_option linter.unusedVariables false
set_option linter.unusedSimpArgs false
set_option maxRecDepth 8000
namespace Go.Proofs.YtdecgkhdbfgldaaGreat
open Go
def cmpI (a b : Int) : Int := if a < b then -1 else if b < a then 1 else 0
def cmpS (a b : ByteArray) : Int := Lib.compareBytes a.data.toList b.data.toList
theorem isNaN_ok (x : Int) : PFm 235 [iv x] (bv false) := by
  refine AC_intro Tryz.func235 rfl Tryz.ntmps235 (Nat.le_of_ble_eq_true rfl) fun c hL hQ hDD => ?_; refine awp_seq ?_; refine awp_region ?_; refine awps_stp0 rfl rfl (by decide) (stp_move (.inr rfl) rfl) ?_; refine awps_nil ?_; refine thenQ_nil ?_; refine awp_seq ?_; refine awp_region ?_; refine awps_stp0 rfl rfl (by decide) (stp_move (.inl rfl) rfl) ?_
  refine awps_stp0 rfl rfl (by decide) (stp_move (.inl rfl) rfl) ?_; refine awps_stp0 rfl rfl (by decide) (stp_binI rfl rfl rfl rfl) ?_; refine awps_stp0 rfl rfl (by decide) (stp_move (.inr rfl) rfl) ?_; refine awps_nil ?_; refine thenQ_nil ?_; refine awp_ret ?_
  -- leaf 
  refine ret0 (noL hL) (.inl rfl) (resAs_tmp rfl (resAs_nil)) ?_ ?_
  · rfl
  refine ⟨bool_w ?_, rfl⟩
  simp
theorem cmpInt_ok (x y : Int) : PFm 184 [iv x, iv y] (iv (cmpI x y)) := by
  refine AC_intro Tryz.func184 rfl Tryz.ntmps184 (Nat.le_of_ble_eq_true rfl) fun c hL hQ hDD => ?_; refine awp_seq ?_; refine awp_region ?_; refine awps_stp0 rfl rfl (by decide) (stp_move (.inr rfl) rfl) ?_; refine awps_nil ?_; refine thenQ_nil ?_; refine awp_seq ?_; refine awp_region ?_; refine awps_stp0 rfl rfl (by decide) (stp_move (.inl rfl) rfl) ?_
  refine awps_call (avs := [_]) true rfl rfl rfl (by decide) en_cmp_isNaN_int rfl rfl (isNaN_ok _) rfl rfl ?_; refine awps_stp0 rfl rfl (by decide) (stp_move (.inr rfl) rfl) ?_; refine awps_nil ?_; refine thenQ_nil ?_; refine awp_seq ?_; refine awp_region ?_; refine awps_stp0 rfl rfl (by decide) (stp_move (.inl rfl) rfl) ?_
  refine awps_call (avs := [_]) true rfl rfl rfl (by decide) en_cmp_isNaN_int rfl rfl (isNaN_ok _) rfl rfl ?_; refine awps_stp0 rfl rfl (by decide) (stp_move (.inr rfl) rfl) ?_; refine awps_nil ?_; refine thenQ_nil ?_; refine awp_seq ?_; refine awp_seq ?_; refine awp_region ?_; refine awps_stp0 rfl rfl (by decide) (stp_move (.inl rfl) rfl) ?_; refine awps_nil ?_; refine thenQ_nil ?_; refine awp_cond rfl (fun c0 => ?_) (fun c0 => ?_)
  · try simp only [↓cqA, cqB] at c0
    cases c0
  try simp only [↓cqA, cqB] at c0
  refine awp_skip ?_; refine thenQ_nil ?_; refine awp_seq ?_; refine awp_seq ?_; refine awp_region ?_; refine awps_stp0 rfl rfl (by decide) (stp_move (.inl rfl) rfl) ?_; refine awps_nil ?_; refine thenQ_nil ?_; refine awp_cond rfl (fun c2 => ?_) (fun c2 => ?_)
  · try simp only [↓cqA, cqB] at c2
    cases c2
  try simp only [↓cqA, cqB] at c2
  refine awp_skip ?_; refine thenQ_nil ?_; refine awp_seq ?_; refine awp_seq ?_; refine awp_region ?_; refine awps_stp0 rfl rfl (by decide) (stp_move (.inl rfl) rfl) ?_; refine awps_stp0 rfl rfl (by decide) (stp_move (.inl rfl) rfl) ?_; refine awps_stp0 rfl rfl (by decide) (stp_binI rfl rfl rfl rfl) ?_; refine awps_nil ?_; refine thenQ_nil ?_; refine awp_cond rfl (fun c3 => ?_) (fun c3 => ?_)
  · try simp only [↓cqA, cqB] at c3
    refine awp_seq ?_; refine awp_region ?_; refine awps_stp0 rfl rfl (by decide) (stp_move (.inr rfl) rfl) ?_; refine awps_nil ?_; refine thenQ_nil ?_; refine awp_ret ?_; refine thenQ_ret (?_)
    -- leaf 0F2F3T
    refine ret0 (noL hL) (.inl rfl) (resAs_tmp rfl (resAs_nil)) ?_ ?_
    · rfl
    refine ⟨int_w ?_, rfl⟩
    simp only [cmpI]; split <;> (try split) <;> omega
  try simp only [↓cqA, cqB] at c3
  refine awp_skip ?_; refine thenQ_nil ?_; refine awp_seq ?_; refine awp_seq ?_; refine awp_region ?_; refine awps_stp0 rfl rfl (by decide) (stp_move (.inl rfl) rfl) ?_; refine awps_stp0 rfl rfl (by decide) (stp_move (.inl rfl) rfl) ?_; refine awps_stp0 rfl rfl (by decide) (stp_binI rfl rfl rfl rfl) ?_; refine awps_nil ?_; refine thenQ_nil ?_; refine awp_cond rfl (fun c4 => ?_) (fun c4 => ?_)
  · try simp only [↓cqA, cqB] at c4
    refine awp_seq ?_; refine awp_region ?_; refine awps_stp0 rfl rfl (by decide) (stp_move (.inr rfl) rfl) ?_; refine awps_nil ?_; refine thenQ_nil ?_; refine awp_ret ?_; refine thenQ_ret (?_)
    -- leaf 0F2F3F4T
    refine ret0 (noL hL) (.inl rfl) (resAs_tmp rfl (resAs_nil)) ?_ ?_
    · rfl
    refine ⟨int_w ?_, rfl⟩
    simp only [cmpI]; split <;> (try split) <;> omega
  try simp only [↓cqA, cqB] at c4
  refine awp_skip ?_; refine thenQ_nil ?_; refine awp_seq ?_; refine awp_region ?_; refine awps_stp0 rfl rfl (by decide) (stp_move (.inr rfl) rfl) ?_; refine awps_nil ?_; refine thenQ_nil ?_; refine awp_ret ?_
  -- leaf 0F2F3F4F
  refine ret0 (noL hL) (.inl rfl) (resAs_tmp rfl (resAs_nil)) ?_ ?_
  · rfl
  refine ⟨int_w ?_, rfl⟩
  simp only [cmpI]; split <;> (try split) <;> omega
def orL : List Int → Int
  | [] => 0
  | a :: l => if a = 0 then orL l else a
theorem orL_drop : ∀ (l : List Int) (k : Nat), (∀ j x, j < k → l[j]? = some x → x = 0) → orL l = orL (l.drop k)
  | l, 0, _ => by simp
  | [], k + 1, _ => by simp
  | a :: l, k + 1, h => by
    have h0 := h 0 a (by omega) (by simp)
    simp only [orL, if_pos h0, List.drop_succ_cons]
    exact orL_drop l k fun j x hj hx => h (j + 1) x (by omega) (by simpa using hx)
def intDs (l : List Int) : List (List D) := l.map fun x => [.imm (.int .i64 x)]
theorem intDs_get {l : List Int} {k : Nat} {x : Int} (h : l[k]? = some x) : (intDs l)[k]? = some [.imm (.int .i64 x)] := by simp [intDs, h]
theorem cmpOr_ok (l : List Int) (hl : l.length ≤ 1000000) : PFm 183 [.dat false 1 (intDs l)] (iv (orL l)) := by
  have hlen : (intDs l).length = l.length := by simp [intDs]
  refine AC_intro Tryz.func183 rfl Tryz.ntmps183 (Nat.le_of_ble_eq_true rfl) fun c hL hQ hDD => ?_; refine awp_seq ?_; refine awp_region ?_; refine awps_stp0 rfl rfl (by decide) (stp_move (.inr rfl) rfl) ?_; refine awps_nil ?_; refine thenQ_nil ?_; refine awp_seq ?_; refine awp_region ?_; refine awps_stp0 rfl rfl (by decide) (stp_move (.inr rfl) rfl) ?_; refine awps_nil ?_; refine thenQ_nil ?_; refine awp_seq ?_; refine awp_seq ?_; refine awp_region ?_; refine awps_stp0 rfl rfl (by decide) (stp_move (.inl rfl) rfl) ?_; refine awps_stp0 rfl rfl (by decide) (stp_len_dat rfl sl_S_int rfl) ?_
  refine awps_stp0 rfl rfl (by decide) (stp_move (.inl rfl) rfl) ?_; refine awps_nil ?_; refine thenQ_nil ?_; refine awp_block ?_; refine awp_while (l.length) (fun k => k ≤ l.length ∧ ∀ j x, j < k → l[j]? = some x → x = 0) (fun k => ⟨[(3, iv 0), (6, .dat false 1 (intDs l)), (7, iv (intDs l).length), (8, iv (k : Int))], []⟩) (⟨by omega, fun j x hj => absurd hj (by omega)⟩) ?_ (fun k hk hp => ?_)
  · exact sub_re (SubT.cons (lk_eq rfl (by first | rfl | simp)) (SubT.cons (lk_eq rfl (by first | rfl | simp)) (SubT.cons (lk_eq rfl (by first | rfl | simp)) (SubT.cons (lk_eq rfl (by first | rfl | simp)) (SubT.nil))))) (SubO.nil) rfl rfl (noL' (noL hL) _)
  refine awp_seq ?_; refine awp_region ?_; refine awps_stp0 rfl rfl (by decide) (stp_binI rfl rfl rfl rfl) ?_; refine awps_nil ?_; refine thenQ_nil ?_; refine awp_seq ?_; refine awp_cond rfl (fun c0 => ?_) (fun c0 => ?_)
  · try simp only [↓cqA, cqB] at c0
    obtain ⟨u, hu⟩ := get_of_lt (l := l) (k := k) (by omega)
    refine awp_skip ?_; refine thenQ_nil ?_; refine awp_seq ?_; refine awp_block ?_; refine awp_seq ?_; refine awp_region ?_; refine awps_stp0 rfl rfl (by decide) (stp_indexAddr rfl sl_S_int rfl rfl (by omega) (intDs_get hu)) ?_; refine awps_stp0 rfl rfl (by decide) (stp_load_elp1 rfl tf_int rfl) ?_
    refine awps_stp0 rfl rfl (by decide) (stp_move (.inr rfl) rfl) ?_; refine awps_nil ?_; refine thenQ_nil ?_; refine awp_seq ?_; refine awp_region ?_; refine awps_stp0 rfl rfl (by decide) (stp_move (.inl rfl) rfl) ?_; refine awps_stp0 rfl rfl (by decide) (stp_move (.inl rfl) rfl) ?_; refine awps_stp0 rfl rfl (by decide) (stp_binI rfl rfl rfl rfl) ?_; refine awps_nil ?_; refine thenQ_nil ?_; refine awp_cond rfl (fun c1 => ?_) (fun c1 => ?_)
    · try simp only [↓cqA, cqB] at c1
      refine awp_seq ?_; refine awp_region ?_; refine awps_stp0 rfl rfl (by decide) (stp_move (.inl rfl) rfl) ?_; refine awps_stp0 rfl rfl (by decide) (stp_move (.inr rfl) rfl) ?_; refine awps_nil ?_; refine thenQ_nil ?_; refine awp_ret ?_; refine inQ_ret (thenQ_ret (thenQ_ret (inQ_ret (thenQ_ret (?_)))))
      -- leaf 0T1T
      refine ret0 (noL hL) (.inl rfl) (resAs_tmp rfl (resAs_nil)) ?_ ?_
      · rfl
      refine ⟨int_w ?_, rfl⟩
      rw [orL_drop l k hp.2, List.drop_eq_getElem_cons (by omega), orL]
      have h2 := List.getElem?_eq_some_iff.1 hu
      rw [h2.2, if_neg (by simpa using c1)]
    try simp only [↓cqA, cqB] at c1
    refine awp_skip ?_; refine inQ_nil ?_; refine thenQ_nil ?_; refine awp_region ?_; refine awps_stp0 rfl rfl (by decide) (stp_add rfl rfl rfl (by omega)) ?_; refine awps_stp0 rfl rfl (by decide) (stp_move (.inl rfl) rfl) ?_; refine awps_nil ?_; refine thenQ_nil ?_; refine ⟨?_, ?_, ?_⟩
    · skip
      omega
    · skip
      refine ⟨by omega, fun j x hj hx => ?_⟩
      by_cases hjk : j < k
      · exact hp.2 j x hjk hx
      · rw [show j = k by omega, hu] at hx; cases hx; simpa using c1
    exact sub_re (SubT.cons (lk_eq rfl (by first | rfl | simp)) (SubT.cons (lk_eq rfl (by first | rfl | simp)) (SubT.cons (lk_eq rfl (by first | rfl | simp)) (SubT.cons (lk_eq rfl (by first | rfl | simp)) (SubT.nil))))) (SubO.nil) rfl rfl (noL' (noL hL) _)
  try simp only [↓cqA, cqB] at c0
  refine awp_exit ?_; refine thenQ_exit (thenQ_exit (inQ_hit ?_)); refine thenQ_nil ?_; refine awp_seq ?_; refine awp_region ?_; refine awps_stp0 rfl rfl (by decide) (stp_move (.inl rfl) rfl) ?_; refine awps_stp0 rfl rfl (by decide) (stp_move (.inr rfl) rfl) ?_; refine awps_nil ?_; refine thenQ_nil ?_; refine awp_ret ?_
  -- leaf 0F
  refine ret0 (noL hL) (.inl rfl) (resAs_tmp rfl (resAs_nil)) ?_ ?_
  · rfl
  refine ⟨int_w ?_, rfl⟩
  rw [orL_drop l k hp.2, List.drop_eq_nil_of_le (by omega), orL]
theorem CompareString_ok (a b : ByteArray) : PFm 209 [sv a, sv b] (iv (cmpS a b)) := by
  refine AC_intro Tryz.func209 rfl Tryz.ntmps209 (Nat.le_of_ble_eq_true rfl) fun c hL hQ hDD => ?_; refine awp_seq ?_; refine awp_region ?_; refine awps_stp0 rfl rfl (by decide) (stp_move (.inr rfl) rfl) ?_; refine awps_nil ?_; refine thenQ_nil ?_; refine awp_seq ?_; refine awp_region ?_; refine awps_stp0 rfl rfl (by decide) (stp_move (.inl rfl) rfl) ?_
  refine awps_stp0 rfl rfl (by decide) (stp_move (.inl rfl) rfl) ?_; refine awps_stp0 rfl rfl (by decide) (stp_cmpstring Tryz.func254 (by kernel_rfl) (by kernel_rfl) (by kernel_rfl) (by kernel_rfl) rfl rfl rfl) ?_; refine awps_stp0 rfl rfl (by decide) (stp_move (.inr rfl) rfl) ?_; refine awps_nil ?_; refine thenQ_nil ?_; refine awp_ret ?_
  -- leaf 
  refine ret0 (noL hL) (.inl rfl) (resAs_tmp rfl (resAs_nil)) ?_ ?_
  · rfl
  exact ⟨rfl, rfl⟩
theorem stringsCompare_ok (a b : ByteArray) : PFm 151 [sv a, sv b] (iv (cmpS a b)) := by
  refine AC_intro Tryz.func151 rfl Tryz.ntmps151 (Nat.le_of_ble_eq_true rfl) fun c hL hQ hDD => ?_; refine awp_seq ?_; refine awp_region ?_; refine awps_stp0 rfl rfl (by decide) (stp_move (.inr rfl) rfl) ?_; refine awps_nil ?_; refine thenQ_nil ?_; refine awp_seq ?_; refine awp_region ?_; refine awps_stp0 rfl rfl (by decide) (stp_move (.inl rfl) rfl) ?_
  refine awps_stp0 rfl rfl (by decide) (stp_move (.inl rfl) rfl) ?_; refine awps_call (avs := [_, _]) true rfl rfl rfl (by decide) en_internal_bytealg_CompareString rfl rfl (CompareString_ok _ _) rfl rfl ?_; refine awps_stp0 rfl rfl (by decide) (stp_move (.inr rfl) rfl) ?_; refine awps_nil ?_; refine thenQ_nil ?_; refine awp_ret ?_
  -- leaf 
  refine ret0 (noL hL) (.inl rfl) (resAs_tmp rfl (resAs_nil)) ?_ ?_
  · rfl
  exact ⟨rfl, rfl⟩
def cmpL (f : Tm → Tm → Int) : List Tm → List Tm → Int
  | [], [] => 0
  | [], _ :: _ => -1
  | _ :: _, [] => 1
  | a :: x, b :: y => if f a b = 0 then cmpL f x y else f a b
theorem cmpL_drop (f : Tm → Tm → Int) : ∀ (x y : List Tm) (k : Nat), k ≤ x.length → k ≤ y.length → (∀ j a b, j < k → x[j]? = some a → y[j]? = some b → f a b = 0) → cmpL f x y = cmpL f (x.drop k) (y.drop k)
  | x, y, 0, _, _, _ => by simp
  | [], y, k + 1, h, _, _ => by simp at h
  | x, [], k + 1, _, h, _ => by simp at h
  | a :: x, b :: y, k + 1, h1, h2, h => by
    have h0 := h 0 a b (by omega) (by simp) (by simp)
    simp only [cmpL, if_pos h0, List.drop_succ_cons]
    exact cmpL_drop f x y k (by simpa using h1) (by simpa using h2) fun j a b hj hx hy => h (j + 1) a b (by omega) (by simpa using hx) (by simpa using hy)
theorem CompareFunc_ok (x y : List Tm) (hx : x.length ≤ 140737488351232) (hy : y.length ≤ 140737488351232) (f : Tm → Tm → Int) (g : FuncId) (hen : Enters Tryz.prog g) (hg : ∀ a b, a ∈ x → b ∈ y → PFm g [tmA false a, tmA false b] (iv (f a b))) :
    PFm 197 [.dat false 4 (tmDs x), .dat false 4 (tmDs y), .fn g []] (iv (cmpL f x y)) := by
  have hlx := tmDs_length x
  have hly := tmDs_length y
  refine AC_intro Tryz.func197 rfl Tryz.ntmps197 (Nat.le_of_ble_eq_true rfl) fun c hL hQ hDD => ?_; refine awp_seq ?_; refine awp_region ?_; refine awps_stp0 rfl rfl (by decide) (stp_move (.inr rfl) rfl) ?_; refine awps_nil ?_; refine thenQ_nil ?_; refine awp_seq ?_; refine awp_seq ?_; refine awp_region ?_; refine awps_stp0 rfl rfl (by decide) (stp_move (.inl rfl) rfl) ?_; refine awps_stp0 rfl rfl (by decide) (stp_len_dat rfl sl_S_api_Term rfl) ?_; refine awps_stp0 rfl rfl (by decide) (stp_move (.inl rfl) rfl) ?_; refine awps_nil ?_; refine thenQ_nil ?_; refine awp_block ?_
  refine awp_while (x.length) (fun k => k ≤ x.length ∧ k ≤ y.length ∧ ∀ j a b, j < k → x[j]? = some a → y[j]? = some b → f a b = 0) (fun k => ⟨[(0, .dat false 4 (tmDs x)), (1, .dat false 4 (tmDs y)), (2, .fn g []), (11, .dat false 4 (tmDs x)), (12, iv (tmDs x).length), (13, iv (k : Int))], []⟩) (⟨by omega, by omega, fun j a b hj => absurd hj (by omega)⟩) ?_ (fun k hk hp => ?_)
  · exact sub_re (SubT.cons (lk_eq rfl (by first | rfl | simp)) (SubT.cons (lk_eq rfl (by first | rfl | simp)) (SubT.cons (lk_eq rfl (by first | rfl | simp)) (SubT.cons (lk_eq rfl (by first | rfl | simp)) (SubT.cons (lk_eq rfl (by first | rfl | simp)) (SubT.cons (lk_eq rfl (by first | rfl | simp)) (SubT.nil))))))) (SubO.nil) rfl rfl (noL' (noL hL) _)
  refine awp_seq ?_; refine awp_region ?_; refine awps_stp0 rfl rfl (by decide) (stp_binI rfl rfl rfl rfl) ?_; refine awps_nil ?_; refine thenQ_nil ?_; refine awp_seq ?_; refine awp_cond rfl (fun c0 => ?_) (fun c0 => ?_)
  · try simp only [↓cqA, cqB] at c0
    obtain ⟨u, hu⟩ := get_of_lt (l := x) (k := k) (by omega)
    have hu2 := List.getElem?_eq_some_iff.1 hu
    refine awp_skip ?_; refine thenQ_nil ?_; refine awp_seq ?_; refine awp_block ?_; refine awp_seq ?_; refine awp_region ?_; refine awps_stp0 rfl rfl (by decide) (stp_move (.inl rfl) rfl) ?_; refine awps_stp0 rfl rfl (by decide) (stp_indexAddr rfl sl_S_api_Term rfl rfl (by omega) (tmDs_get hu)) ?_; refine awps_stp0 rfl rfl (by decide) (stp_load_elpa rfl tf_api_Term rfl rfl) ?_
    refine awps_stp1 rfl rfl (by decide) (stp_alloc 8 rfl zv_api_Term rfl) rfl ?_; refine awps_stp0 rfl rfl (by decide) (stp_move (.inr rfl) rfl) ?_; refine awps_store rfl rfl rfl tf_api_Term rfl rfl rfl rfl rfl rfl rfl rfl rfl ?_; refine awps_nil ?_; refine thenQ_nil ?_; refine awp_seq ?_; refine awp_seq ?_; refine awp_region ?_; refine awps_stp0 rfl rfl (by decide) (stp_move (.inl rfl) rfl) ?_; refine awps_stp0 rfl rfl (by decide) (stp_move (.inl rfl) rfl) ?_; refine awps_stp0 rfl rfl (by decide) (stp_len_dat rfl sl_S_api_Term rfl) ?_
    refine awps_stp0 rfl rfl (by decide) (stp_binI rfl rfl rfl rfl) ?_; refine awps_nil ?_; refine thenQ_nil ?_; refine awp_cond rfl (fun c1 => ?_) (fun c1 => ?_)
    · try simp only [↓cqA, cqB] at c1
      refine awp_seq ?_; refine awp_region ?_; refine awps_stp0 rfl rfl (by decide) (stp_move (.inr rfl) rfl) ?_; refine awps_nil ?_; refine thenQ_nil ?_; refine awp_ret ?_; refine thenQ_ret (inQ_ret (thenQ_ret (thenQ_ret (inQ_ret (thenQ_ret (?_))))))
      -- leaf 0T1T
      refine ret0 (noL hL) (.inl rfl) (resAs_tmp rfl (resAs_nil)) ?_ ?_
      · rfl
      refine ⟨int_w ?_, rfl⟩
      rw [cmpL_drop f x y k (by omega) (by omega) hp.2.2, List.drop_eq_getElem_cons (by omega), show List.drop k y = [] from List.drop_eq_nil_of_le (by omega), cmpL]
    try simp only [↓cqA, cqB] at c1
    obtain ⟨v, hv⟩ := get_of_lt (l := y) (k := k) (by omega)
    have hv2 := List.getElem?_eq_some_iff.1 hv
    refine awp_skip ?_; refine thenQ_nil ?_; refine awp_seq ?_; refine awp_region ?_; refine awps_stp0 rfl rfl (by decide) (stp_move (.inl rfl) rfl) ?_; refine awps_stp0 rfl rfl (by decide) (stp_move (.inl rfl) rfl) ?_; refine awps_stp0 rfl rfl (by decide) (stp_indexAddr rfl sl_S_api_Term rfl rfl (by omega) (tmDs_get hv)) ?_; refine awps_stp0 rfl rfl (by decide) (stp_load_elpa rfl tf_api_Term rfl rfl) ?_
    refine awps_stp1 rfl rfl (by decide) (stp_alloc 9 rfl zv_api_Term rfl) rfl ?_; refine awps_store rfl rfl rfl tf_api_Term rfl rfl rfl rfl rfl rfl rfl rfl rfl ?_; refine awps_nil ?_; refine thenQ_nil ?_; refine awp_seq ?_; refine awp_region ?_; refine awps_stp0 rfl rfl (by decide) (stp_move (.inl rfl) rfl) ?_; refine awps_stp0 rfl rfl (by decide) (stp_load_all rfl tf_api_Term rfl rfl rfl rfl) ?_; refine awps_stp0 rfl rfl (by decide) (stp_load_all rfl tf_api_Term rfl rfl rfl rfl) ?_
    refine awps_call (avs := [_, _]) true rfl rfl rfl (by decide) hen rfl rfl (hg u v (List.mem_of_getElem? hu) (List.mem_of_getElem? hv)) rfl rfl ?_; refine awps_stp0 rfl rfl (by decide) (stp_move (.inr rfl) rfl) ?_; refine awps_nil ?_; refine thenQ_nil ?_; refine awp_seq ?_; refine awp_region ?_; refine awps_stp0 rfl rfl (by decide) (stp_move (.inl rfl) rfl) ?_; refine awps_stp0 rfl rfl (by decide) (stp_binI rfl rfl rfl rfl) ?_; refine awps_nil ?_; refine thenQ_nil ?_; refine awp_cond rfl (fun c2 => ?_) (fun c2 => ?_)
    · try simp only [↓cqA, cqB] at c2
      refine awp_seq ?_; refine awp_region ?_; refine awps_stp0 rfl rfl (by decide) (stp_move (.inl rfl) rfl) ?_; refine awps_stp0 rfl rfl (by decide) (stp_move (.inr rfl) rfl) ?_; refine awps_nil ?_; refine thenQ_nil ?_; refine awp_ret ?_; refine inQ_ret (thenQ_ret (thenQ_ret (inQ_ret (thenQ_ret (?_)))))
      -- leaf 0T1F2T
      refine ret0 (noL hL) (.inl rfl) (resAs_tmp rfl (resAs_nil)) ?_ ?_
      · rfl
      refine ⟨int_w ?_, rfl⟩
      rw [cmpL_drop f x y k (by omega) (by omega) hp.2.2, List.drop_eq_getElem_cons (by omega), List.drop_eq_getElem_cons (l := y) (by omega), cmpL, hu2.2, hv2.2, if_neg (by simpa using c2)]
    try simp only [↓cqA, cqB] at c2
    refine awp_skip ?_; refine inQ_nil ?_; refine thenQ_nil ?_; refine awp_region ?_; refine awps_stp0 rfl rfl (by decide) (stp_add rfl rfl rfl (by omega)) ?_; refine awps_stp0 rfl rfl (by decide) (stp_move (.inl rfl) rfl) ?_; refine awps_nil ?_; refine thenQ_nil ?_; refine ⟨?_, ?_, ?_⟩
    · skip
      omega
    · skip
      refine ⟨by omega, by omega, fun j a b hj hx hy => ?_⟩
      by_cases hjk : j < k
      · exact hp.2.2 j a b hjk hx hy
      · rw [show j = k by omega] at hx hy; rw [hu] at hx; rw [hv] at hy; cases hx; cases hy; simpa using c2
    exact sub_re (SubT.cons (lk_eq rfl (by first | rfl | simp)) (SubT.cons (lk_eq rfl (by first | rfl | simp)) (SubT.cons (lk_eq rfl (by first | rfl | simp)) (SubT.cons (lk_eq rfl (by first | rfl | simp)) (SubT.cons (lk_eq rfl (by first | rfl | simp)) (SubT.cons (lk_eq rfl (by first | rfl | simp)) (SubT.nil))))))) (SubO.nil) rfl rfl (noL' (noL hL) _)
  try simp only [↓cqA, cqB] at c0
  refine awp_exit ?_; refine thenQ_exit (thenQ_exit (inQ_hit ?_)); refine thenQ_nil ?_; refine awp_seq ?_; refine awp_seq ?_; refine awp_region ?_; refine awps_stp0 rfl rfl (by decide) (stp_move (.inl rfl) rfl) ?_; refine awps_stp0 rfl rfl (by decide) (stp_len_dat rfl sl_S_api_Term rfl) ?_; refine awps_stp0 rfl rfl (by decide) (stp_move (.inl rfl) rfl) ?_; refine awps_stp0 rfl rfl (by decide) (stp_len_dat rfl sl_S_api_Term rfl) ?_; refine awps_stp0 rfl rfl (by decide) (stp_binI rfl rfl rfl rfl) ?_; refine awps_nil ?_; refine thenQ_nil ?_; refine awp_cond rfl (fun c3 => ?_) (fun c3 => ?_)
  · try simp only [↓cqA, cqB] at c3
    refine awp_seq ?_; refine awp_region ?_; refine awps_stp0 rfl rfl (by decide) (stp_move (.inr rfl) rfl) ?_; refine awps_nil ?_; refine thenQ_nil ?_; refine awp_ret ?_; refine thenQ_ret (?_)
    -- leaf 0F3T
    refine ret0 (noL hL) (.inl rfl) (resAs_tmp rfl (resAs_nil)) ?_ ?_
    · rfl
    refine ⟨int_w ?_, rfl⟩
    rw [cmpL_drop f x y k (by omega) (by omega) hp.2.2, List.drop_eq_nil_of_le (by omega), List.drop_eq_getElem_cons (l := y) (by omega), cmpL]
  try simp only [↓cqA, cqB] at c3
  refine awp_skip ?_; refine thenQ_nil ?_; refine awp_seq ?_; refine awp_region ?_; refine awps_stp0 rfl rfl (by decide) (stp_move (.inr rfl) rfl) ?_; refine awps_nil ?_; refine thenQ_nil ?_; refine awp_ret ?_
  -- leaf 0F3F
  refine ret0 (noL hL) (.inl rfl) (resAs_tmp rfl (resAs_nil)) ?_ ?_
  · rfl
  refine ⟨int_w ?_, rfl⟩
  rw [cmpL_drop f x y k (by omega) (by omega) hp.2.2, List.drop_eq_nil_of_le (by omega), List.drop_eq_nil_of_le (by omega), cmpL]
def dle : Nat → Tm → Prop
  | 0, _ => False
  | d + 1, t => ∀ u, u ∈ t.args → dle d u
def cmpT : Nat → Tm → Tm → Int
  | 0, _, _ => 0
  | d + 1, a, b =>
    if orL [cmpI a.kind b.kind, cmpI a.n b.n, cmpI a.args.length b.args.length, cmpS a.name b.name] = 0 then cmpL (cmpT d) a.args b.args
    else orL [cmpI a.kind b.kind, cmpI a.n b.n, cmpI a.args.length b.args.length, cmpS a.name b.name]
theorem Tm.wfs_mem {ts : List Tm} {t : Tm} (h : Tm.wfs ts) (hm : t ∈ ts) : t.wf := by
  obtain ⟨i, hi⟩ := List.getElem?_of_mem hm
  exact Tm.wfs_get h hi
theorem Compare_ok : ∀ (d : Nat) (a b : Tm), dle d a → a.wf → b.wf → PFm 135 [tmA false a, tmA false b] (iv (cmpT d a b))
  | 0, a, b, h, _, _ => h.elim
  | d + 1, a, b, h, ha, hb => by
    have h1 := ha.2.2.2.1
    have h2 := hb.2.2.2.1
    have hla := tmDs_length a.args
    have hlb := tmDs_length b.args
    refine AC_intro Tryz.func135 rfl Tryz.ntmps135 (Nat.le_of_ble_eq_true rfl) fun c hL hQ hDD => ?_; refine awp_seq ?_; refine awp_region ?_; refine awps_stp1 rfl rfl (by decide) (stp_box 2 rfl rfl rfl) rfl ?_; refine awps_stp1 rfl rfl (by decide) (stp_box 3 rfl rfl rfl) rfl ?_; refine awps_stp0 rfl rfl (by decide) (stp_move (.inr rfl) rfl) ?_; refine awps_nil ?_; refine thenQ_nil ?_; refine awp_seq ?_; refine awp_seq ?_; refine awp_drawG 21 mixed rfl rfl rfl rfl ?_; refine MGo_c0 rfl (by decide) (.run rfl (stp_fieldAddr rfl fo_api_Term_0 rfl)) ?_
    refine MGo_c0 rfl (by decide) (.run rfl (stp_load rfl tf_int rfl rfl rfl rfl rfl)) ?_; refine MGo_c0 rfl (by decide) (.run rfl (stp_fieldAddr rfl fo_api_Term_0 rfl)) ?_; refine MGo_c0 rfl (by decide) (.run rfl (stp_load rfl tf_int rfl rfl rfl rfl rfl)) ?_; refine MGo_c0 rfl (by decide) (.run rfl (stp_call (avs := [_, _]) true rfl en_cmp_Compare_int rfl rfl (cmpInt_ok _ _) (fun _ => rfl) rfl)) ?_; refine MGo_c0 rfl (by decide) (.run rfl (stp_fieldAddr rfl fo_api_Term_2 rfl)) ?_; refine MGo_c0 rfl (by decide) (.run rfl (stp_load rfl tf_int rfl rfl rfl rfl rfl)) ?_
    refine MGo_c0 rfl (by decide) (.run rfl (stp_fieldAddr rfl fo_api_Term_2 rfl)) ?_; refine MGo_c0 rfl (by decide) (.run rfl (stp_load rfl tf_int rfl rfl rfl rfl rfl)) ?_; refine MGo_c0 rfl (by decide) (.run rfl (stp_call (avs := [_, _]) true rfl en_cmp_Compare_int rfl rfl (cmpInt_ok _ _) (fun _ => rfl) rfl)) ?_; refine MGo_c0 rfl (by decide) (.run rfl (stp_fieldAddr rfl fo_api_Term_3 rfl)) ?_; refine MGo_c0 rfl (by decide) (.run rfl (stp_load rfl tf_S_api_Term rfl rfl rfl rfl rfl)) ?_; refine MGo_c0 rfl (by decide) (.run rfl (stp_len_dat rfl sl_S_api_Term rfl)) ?_
    refine MGo_c0 rfl (by decide) (.run rfl (stp_fieldAddr rfl fo_api_Term_3 rfl)) ?_; refine MGo_c0 rfl (by decide) (.run rfl (stp_load rfl tf_S_api_Term rfl rfl rfl rfl rfl)) ?_; refine MGo_c0 rfl (by decide) (.run rfl (stp_len_dat rfl sl_S_api_Term rfl)) ?_; refine MGo_c0 rfl (by decide) (.run rfl (stp_call (avs := [_, _]) true rfl en_cmp_Compare_int rfl rfl (cmpInt_ok _ _) (fun _ => rfl) rfl)) ?_; refine MGo_c0 rfl (by decide) (.run rfl (stp_fieldAddr rfl fo_api_Term_1 rfl)) ?_; refine MGo_c0 rfl (by decide) (.run rfl (stp_load rfl tf_string rfl rfl rfl rfl rfl)) ?_
    refine MGo_c0 rfl (by decide) (.run rfl (stp_fieldAddr rfl fo_api_Term_1 rfl)) ?_; refine MGo_c0 rfl (by decide) (.run rfl (stp_load rfl tf_string rfl rfl rfl rfl rfl)) ?_; refine MGo_nil ⟨rfl, rfl, ?_⟩; refine awps_call (avs := [_, _]) true rfl rfl rfl (by decide) en_strings_Compare rfl rfl (stringsCompare_ok _ _) rfl rfl ?_; refine awps_stp1 rfl rfl (by decide) (stp_buildSlice 28 rfl sl_S_int zv_int rfl rfl (by decide) (by decide) (by decide) rfl rfl rfl) rfl ?_; refine awps_rowd 28 false 4 rfl rfl rfl rfl ?_
    refine awps_call (avs := [_]) true rfl rfl rfl (by decide) en_cmp_Or_int rfl rfl (cmpOr_ok [cmpI a.kind b.kind, cmpI a.n b.n, cmpI (tmDs a.args).length (tmDs b.args).length, cmpS a.name b.name] (by simp)) rfl rfl ?_; refine awps_stp0 rfl rfl (by decide) (stp_move (.inr rfl) rfl) ?_; refine awps_nil ?_; refine thenQ_nil ?_; refine awp_seq ?_; refine awp_region ?_; refine awps_stp0 rfl rfl (by decide) (stp_move (.inl rfl) rfl) ?_; refine awps_stp0 rfl rfl (by decide) (stp_binI rfl rfl rfl rfl) ?_; refine awps_nil ?_; refine thenQ_nil ?_; refine awp_cond rfl (fun c0 => ?_) (fun c0 => ?_)
    · try simp only [↓cqA, cqB] at c0
      refine awp_seq ?_; refine awp_region ?_; refine awps_stp0 rfl rfl (by decide) (stp_move (.inl rfl) rfl) ?_; refine awps_stp0 rfl rfl (by decide) (stp_move (.inr rfl) rfl) ?_; refine awps_nil ?_; refine thenQ_nil ?_; refine awp_ret ?_; refine thenQ_ret (?_)
      -- leaf 0T
      refine ret0 (noL hL) (.inl rfl) (resAs_tmp rfl (resAs_nil)) ?_ ?_
      · rfl
      refine ⟨int_w ?_, rfl⟩
      rw [hla, hlb] at c0
      rw [cmpT]
      try rw [hla, hlb]
      first | rw [if_pos (by simpa using c0)] | rw [if_neg (by simpa using c0)]
    try simp only [↓cqA, cqB] at c0
    refine awp_skip ?_; refine thenQ_nil ?_; refine awp_seq ?_; refine awp_region ?_; refine awps_stp0 rfl rfl (by decide) (stp_fieldAddr rfl fo_api_Term_3 rfl) ?_; refine awps_stp0 rfl rfl (by decide) (stp_load rfl tf_S_api_Term rfl rfl rfl rfl rfl) ?_; refine awps_stp0 rfl rfl (by decide) (stp_fieldAddr rfl fo_api_Term_3 rfl) ?_; refine awps_stp0 rfl rfl (by decide) (stp_load rfl tf_S_api_Term rfl rfl rfl rfl rfl) ?_
    refine awps_call (avs := [_, _, _]) true rfl rfl rfl (by decide) en_slices_CompareFunc_api_Term_api_Term_api_Term_api_Term rfl rfl (CompareFunc_ok a.args b.args (by omega) (by omega) (cmpT d) _ en_term_Compare (fun u v hu hv => Compare_ok d u v (h u hu) (Tm.wfs_mem ha.2.2.2.2 hu) (Tm.wfs_mem hb.2.2.2.2 hv))) rfl rfl ?_; refine awps_stp0 rfl rfl (by decide) (stp_move (.inr rfl) rfl) ?_; refine awps_nil ?_; refine thenQ_nil ?_; refine awp_ret ?_
    -- leaf 0F
    refine ret0 (noL hL) (.inl rfl) (resAs_tmp rfl (resAs_nil)) ?_ ?_
    · rfl
    refine ⟨int_w ?_, rfl⟩
    rw [hla, hlb] at c0
    rw [cmpT]
    try rw [hla, hlb]
    first | rw [if_pos (by simpa using c0)] | rw [if_neg (by simpa using c0)]
end Go.Proofs.YtdecgkhdbfgldaaGreat
