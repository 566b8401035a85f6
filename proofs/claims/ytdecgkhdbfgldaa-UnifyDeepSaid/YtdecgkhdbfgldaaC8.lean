/- Part 8 of the proof: Gf, Gg, Gh. -/
import Derived.Test.YtdecgkhdbfgldaaC7
set_option linter.unusedVariables false
set_option linter.unusedSimpArgs false
set_option maxRecDepth 8000
namespace Go.Proofs.Ytdecgkhdbfgldaa
open Go
theorem sub_le {c : Ctx} {N : Nat} {T : List (Nat × AV)} {O : List (Nat × Ob)} (t : Nat) {v u : AV} (ht : lk T t = some v) (hle : Le v u) : Sub c N ⟨T, O⟩ ⟨(t, u) :: T, O⟩ := by
  rintro a w ⟨ρ, S, hc⟩
  have hev := hc.T t _ ht
  refine ⟨ρ, S, { hc with tm := hc.tm, T := fun s x hs => ?_ }⟩
  simp only [lk_cons] at hs
  split at hs
  · rename_i e'; subst e'
    simp only [Option.some.injEq] at hs; subst hs
    exact hle.rep hev
  · exact hc.T s x hs
theorem var_le (f : Bool) (s : ByteArray) : Le (.agg [iv 1, sv s, iv 0, .imm (.slice none 0 0)]) (.agg (lift f (tmD (varT s)))) := .agg (.cons .refl (.cons .refl (.cons .refl (.cons .nil .nil))))
def numT (n : Int) : Tm := ⟨2, ⟨#[]⟩, n, []⟩
theorem num_le (f : Bool) (n : Int) : Le (.agg [iv 2, sv ⟨#[]⟩, iv n, .imm (.slice none 0 0)]) (.agg (lift f (tmD (numT n)))) := .agg (.cons .refl (.cons .refl (.cons .refl (.cons .nil .nil))))
theorem variable3_raw (s : ByteArray) : PF 26 [sv s] (.agg [iv 1, sv s, iv 0, .imm (.slice none 0 0)]) := by
  refine AC_intro Try.func26 rfl Try.ntmps26 (Nat.le_of_ble_eq_true rfl) fun c hL hQ => ?_
  refine awp_seq ?_
  refine awp_region ?_
  refine awps_stp1 rfl rfl (by decide) (stp_alloc 2 rfl zv_api_Term rfl) rfl ?_
  refine awps_nil ?_
  refine thenQ_nil ?_
  refine awp_seq ?_
  refine awp_region ?_
  refine awps_stp0 rfl rfl (by decide) (stp_move (.inl rfl) rfl) ?_
  refine awps_stp0 rfl rfl (by decide) (stp_build rfl zv_api_Term rfl pl_api_Term rfl rfl) ?_
  refine awps_store rfl rfl rfl tf_api_Term rfl rfl rfl rfl rfl rfl rfl rfl rfl ?_
  refine awps_nil ?_
  refine thenQ_nil ?_
  refine awp_ret ?_
  -- leaf 
  refine ret0 (noL hL) (.inl rfl) (resAs_cell tf_api_Term rfl rfl rfl (resAs_nil)) ?_ ?_
  · rfl
  exact ⟨rfl, rfl⟩
theorem variable3_ok (s : ByteArray) : PF 26 [sv s] (.agg (lift true (tmD (varT s)))) := AC_leR (var_le true s) (variable3_raw s)
theorem name3_ok (s : ByteArray) (ts : List Tm) (hts : ts.length ≤ 1000) : PF 28 [sv s, .dat false 4 (tmDs ts)] (.agg (lift false (tmD ⟨3, s, 0, ts⟩))) := by
  have hlen := tmDs_length ts
  have h0 : ([] : List (List D)).length = 0 := rfl
  have hd4 : ∀ d ∈ tmDs ts, d.length = 4 := fun d hd => by rw [tmDs_map] at hd; obtain ⟨t, _, rfl⟩ := List.mem_map.1 hd; rfl
  refine AC_intro Try.func28 rfl Try.ntmps28 (Nat.le_of_ble_eq_true rfl) fun c hL hQ => ?_
  refine awp_seq ?_
  refine awp_region ?_
  refine awps_stp1 rfl rfl (by decide) (stp_alloc 4 rfl zv_api_Term rfl) rfl ?_
  refine awps_nil ?_
  refine thenQ_nil ?_
  refine awp_seq ?_
  refine awp_region ?_
  refine awps_stp0 rfl rfl (by decide) (stp_move (.inl rfl) rfl) ?_
  refine awps_stp1 rfl rfl (by decide) (stp_buildSlice0 6 false rfl sl_S_api_Term zv_api_Term) rfl ?_
  refine awps_stp0 rfl rfl (by decide) (stp_move (.inl rfl) rfl) ?_
  refine awps_append_src 8 ta_S_api_Term rfl rfl (by decide) rfl rfl rfl (src_dat hd4 rfl) rfl hd4 (noL hL _) rfl (by omega) rfl ?_
  refine awps_sub (sub_freeze (l := 8) rfl (by decide) (noL hL _) rfl rfl) ?_
  refine awps_stp0 rfl rfl (by decide) (stp_build rfl zv_api_Term rfl pl_api_Term rfl rfl) ?_
  refine awps_store rfl rfl rfl tf_api_Term rfl rfl rfl rfl rfl rfl rfl rfl rfl ?_
  refine awps_nil ?_
  refine thenQ_nil ?_
  refine awp_ret ?_
  -- leaf 
  refine ret0 (noL hL) (.inl rfl) (resAs_cell tf_api_Term rfl rfl rfl (resAs_nil)) ?_ ?_
  · rfl
  exact ⟨rfl, rfl⟩
theorem num3_ok (x : Int) : PF 29 [iv x] (iv x) := by
  refine AC_intro Try.func29 rfl Try.ntmps29 (Nat.le_of_ble_eq_true rfl) fun c hL hQ => ?_
  refine awp_seq ?_
  refine awp_region ?_
  refine awps_stp0 rfl rfl (by decide) (stp_move (.inr rfl) rfl) ?_
  refine awps_nil ?_
  refine thenQ_nil ?_
  refine awp_seq ?_
  refine awp_region ?_
  refine awps_stp0 rfl rfl (by decide) (stp_move (.inl rfl) rfl) ?_
  refine awps_stp0 rfl rfl (by decide) (stp_move (.inr rfl) rfl) ?_
  refine awps_nil ?_
  refine thenQ_nil ?_
  refine awp_ret ?_
  -- leaf 
  refine ret0 (noL hL) (.inl rfl) (resAs_tmp rfl (resAs_nil)) ?_ ?_
  · rfl
  exact ⟨rfl, rfl⟩
theorem tm_wf1 {k : Int} {s : ByteArray} {n : Int} {l : List Tm} (hk : -9223372036854775808 ≤ k ∧ k ≤ 9223372036854775807) (hs : s.size ≤ 140737488351232) (hn : -9223372036854775808 ≤ n ∧ n ≤ 9223372036854775807) (hl : l.length * 56 ≤ 140737488351232) (h : ∀ t ∈ l, t.wf) : (Tm.mk k s n l).wf := ⟨hk, hs, hn, hl, wfs_of h⟩
abbrev sX : ByteArray := ⟨#[88]⟩
abbrev sY : ByteArray := ⟨#[89]⟩
abbrev nmT (s : ByteArray) (l : List Tm) : Tm := ⟨3, s, 0, l⟩
def wkA : Tm := nmT ⟨#[102]⟩ [varT sX, numT 1]
def wkB : Tm := nmT ⟨#[102]⟩ [numT 2, varT sY]
def wkR : List Bd × Int := ([⟨sX, numT 2⟩, ⟨sY, numT 1⟩], 0)
theorem varT_w (s : ByteArray) (h : s.size ≤ 140737488351232) : (varT s).wf := tm_wf1 (by decide) h (by decide) (by decide) (fun t ht => by cases ht)
theorem numT_w (n : Int) (h : -9223372036854775808 ≤ n ∧ n ≤ 9223372036854775807) : (numT n).wf := tm_wf1 (by decide) (Nat.zero_le _) h (by decide) (fun t ht => by cases ht)
theorem nmT_w (s : ByteArray) (l : List Tm) (h : s.size ≤ 140737488351232) (hl : l.length * 56 ≤ 140737488351232) (hw : ∀ t ∈ l, t.wf) : (nmT s l).wf := tm_wf1 (by decide) h (by decide) hl hw
theorem all2 {P : Tm → Prop} {a b : Tm} (h1 : P a) (h2 : P b) : ∀ t ∈ [a, b], P t := fun t ht => by
  simp only [List.mem_cons, List.not_mem_nil, or_false] at ht
  rcases ht with rfl | rfl <;> assumption
theorem all1 {P : Tm → Prop} {a : Tm} (h1 : P a) : ∀ t ∈ [a], P t := fun t ht => by
  simp only [List.mem_cons, List.not_mem_nil, or_false] at ht
  rw [ht]; exact h1
theorem nil_bwf : ∀ b ∈ ([] : List Bd), b.wf := fun b hb => by cases hb
theorem wkA_w : wkA.wf := nmT_w _ _ (by decide) (by decide) (all2 (varT_w _ (by decide)) (numT_w _ (by decide)))
theorem wkB_w : wkB.wf := nmT_w _ _ (by decide) (by decide) (all2 (numT_w _ (by decide)) (varT_w _ (by decide)))
theorem wk_uni : uniP [] wkA wkB wkR := .inl ⟨by kernel_rfl, by kernel_rfl, by kernel_rfl, 10, by kernel_rfl⟩
theorem wakes3_ok : PF 30 [] (bv true) := by
  have key : PF 27 [.imm (.slice none 0 0), tmA false wkA, tmA false wkB] (.tup [bdA [⟨sX, numT 2⟩, ⟨sY, numT 1⟩], iv 0]) := AC_le (.cons .nil (.cons .refl (.cons .refl .nil))) (Unify_ok [] nil_bwf wkA wkB wkA_w wkB_w wkR wk_uni)
  refine AC_intro Try.func30 rfl Try.ntmps30 (Nat.le_of_ble_eq_true rfl) fun c hL hQ => ?_
  refine awp_seq ?_
  refine awp_region ?_
  refine awps_stp0 rfl rfl (by decide) (stp_move (.inr rfl) rfl) ?_
  refine awps_nil ?_
  refine thenQ_nil ?_
  refine awp_seq ?_
  refine awp_region ?_
  refine awps_call (avs := [_]) true rfl rfl rfl (by decide) en_almagestlaw3_variable rfl rfl (variable3_ok sX) rfl rfl ?_
  refine awps_stp1 rfl rfl (by decide) (stp_alloc 1 rfl zv_api_Term rfl) rfl ?_
  refine awps_store rfl rfl rfl tf_api_Term rfl rfl rfl rfl rfl rfl rfl rfl rfl ?_
  refine awps_nil ?_
  refine thenQ_nil ?_
  refine awp_seq ?_
  refine awp_region ?_
  refine awps_call (avs := [_]) true rfl rfl rfl (by decide) en_almagestlaw3_variable rfl rfl (variable3_ok sY) rfl rfl ?_
  refine awps_stp1 rfl rfl (by decide) (stp_alloc 2 rfl zv_api_Term rfl) rfl ?_
  refine awps_store rfl rfl rfl tf_api_Term rfl rfl rfl rfl rfl rfl rfl rfl rfl ?_
  refine awps_nil ?_
  refine thenQ_nil ?_
  refine awp_seq ?_
  refine awp_sub (sub_untag hQ) ?_
  refine awp_region ?_
  first | refine awps_stp0 rfl rfl (by decide) (stp_load_all rfl tf_api_Term rfl rfl rfl rfl) ?_ | refine awps_stp0 rfl rfl (by decide) (stp_load rfl tf_api_Term rfl rfl rfl rfl rfl) ?_ | refine awps_stp0 rfl rfl (by decide) (stp_load_elpa rfl tf_api_Term rfl rfl) ?_ | refine awps_stp0 rfl rfl (by decide) (stp_load_elpn rfl tf_api_Term rfl rfl rfl) ?_
  refine awps_stp0 rfl rfl (by decide) (stp_build rfl zv_api_Term rfl pl_api_Term rfl rfl) ?_
  refine awps_sub (sub_le 10 rfl (num_le false 1)) ?_
  refine awps_stp1 rfl rfl (by decide) (stp_buildSlice 11 rfl sl_S_api_Term zv_api_Term rfl rfl (by decide) (by decide) (by decide) rfl rfl rfl) rfl ?_
  refine awps_rowd 11 false 2 rfl rfl rfl rfl ?_
  refine awps_sub (sub_freeze (l := 11) rfl (by decide) (noL hL _) rfl rfl) ?_
  refine awps_stp0 rfl rfl (by decide) (stp_build rfl zv_api_Term rfl pl_api_Term rfl rfl) ?_
  refine awps_stp1 rfl rfl (by decide) (stp_alloc 3 rfl zv_api_Term rfl) rfl ?_
  refine awps_store rfl rfl rfl tf_api_Term rfl rfl rfl rfl rfl rfl rfl rfl rfl ?_
  refine awps_nil ?_
  refine thenQ_nil ?_
  refine awp_seq ?_
  refine awp_region ?_
  refine awps_stp0 rfl rfl (by decide) (stp_build rfl zv_api_Term rfl pl_api_Term rfl rfl) ?_
  first | refine awps_stp0 rfl rfl (by decide) (stp_load_all rfl tf_api_Term rfl rfl rfl rfl) ?_ | refine awps_stp0 rfl rfl (by decide) (stp_load rfl tf_api_Term rfl rfl rfl rfl rfl) ?_ | refine awps_stp0 rfl rfl (by decide) (stp_load_elpa rfl tf_api_Term rfl rfl) ?_ | refine awps_stp0 rfl rfl (by decide) (stp_load_elpn rfl tf_api_Term rfl rfl rfl) ?_
  refine awps_sub (sub_le 13 rfl (num_le false 2)) ?_
  refine awps_stp1 rfl rfl (by decide) (stp_buildSlice 15 rfl sl_S_api_Term zv_api_Term rfl rfl (by decide) (by decide) (by decide) rfl rfl rfl) rfl ?_
  refine awps_rowd 15 false 2 rfl rfl rfl rfl ?_
  refine awps_sub (sub_freeze (l := 15) rfl (by decide) (noL hL _) rfl rfl) ?_
  refine awps_stp0 rfl rfl (by decide) (stp_build rfl zv_api_Term rfl pl_api_Term rfl rfl) ?_
  refine awps_stp1 rfl rfl (by decide) (stp_alloc 4 rfl zv_api_Term rfl) rfl ?_
  refine awps_store rfl rfl rfl tf_api_Term rfl rfl rfl rfl rfl rfl rfl rfl rfl ?_
  refine awps_nil ?_
  refine thenQ_nil ?_
  refine awp_seq ?_
  refine awp_region ?_
  first | refine awps_stp0 rfl rfl (by decide) (stp_load_all rfl tf_api_Term rfl rfl rfl rfl) ?_ | refine awps_stp0 rfl rfl (by decide) (stp_load rfl tf_api_Term rfl rfl rfl rfl rfl) ?_ | refine awps_stp0 rfl rfl (by decide) (stp_load_elpa rfl tf_api_Term rfl rfl) ?_ | refine awps_stp0 rfl rfl (by decide) (stp_load_elpn rfl tf_api_Term rfl rfl rfl) ?_
  first | refine awps_stp0 rfl rfl (by decide) (stp_load_all rfl tf_api_Term rfl rfl rfl rfl) ?_ | refine awps_stp0 rfl rfl (by decide) (stp_load rfl tf_api_Term rfl rfl rfl rfl rfl) ?_ | refine awps_stp0 rfl rfl (by decide) (stp_load_elpa rfl tf_api_Term rfl rfl) ?_ | refine awps_stp0 rfl rfl (by decide) (stp_load_elpn rfl tf_api_Term rfl rfl rfl) ?_
  refine awps_call (avs := [_, _, _]) false rfl rfl rfl (by decide) en_unify_Unify rfl rfl (key) rfl rfl ?_
  refine awps_stp0 rfl rfl (by decide) (stp_move (.inl rfl) rfl) ?_
  refine awps_stp0 rfl rfl (by decide) (stp_extract rfl rfl rfl) ?_
  refine awps_stp0 rfl rfl (by decide) (stp_extract rfl rfl rfl) ?_
  refine awps_stp0 rfl rfl (by decide) (stp_move (.inr rfl) rfl) ?_
  refine awps_stp0 rfl rfl (by decide) (stp_move (.inr rfl) rfl) ?_
  refine awps_nil ?_
  refine thenQ_nil ?_
  refine awp_seq ?_
  refine awp_region ?_
  refine awps_stp0 rfl rfl (by decide) (stp_move (.inl rfl) rfl) ?_
  refine awps_call (avs := [_]) true rfl rfl rfl (by decide) en_almagestlaw3_num rfl rfl (num3_ok _) rfl rfl ?_
  refine awps_stp0 rfl rfl (by decide) (stp_binI rfl rfl rfl rfl) ?_
  refine awps_stp0 rfl rfl (by decide) (stp_move (.inl rfl) rfl) ?_
  refine awps_split 26 rfl (fun g26 => ?_) (fun g26 => ?_)
  · try simp only [↓str_beq_t, ↓str_beq_f, decide_eq_true_eq, decide_eq_false_iff_not, Bool.not_eq_true', Bool.not_eq_false', Int.not_lt, Int.not_le, beq_iff_eq, beq_eq_false_iff_ne, bne_iff_ne, bne_eq_false_iff_eq, ne_eq] at g26
    refine awps_g0 rfl rfl rfl (by decide) rfl (by decide) (stp_move (.inl rfl) rfl) ?_
    first | refine awps_g0 rfl rfl rfl (by decide) rfl (by decide) (stp_len_dat rfl sl_S_api_Bind rfl) ?_ | refine awps_g0 rfl rfl rfl (by decide) rfl (by decide) (stp_len_rowd rfl sl_S_api_Bind rfl rfl) ?_ | refine awps_g0 rfl rfl rfl (by decide) rfl (by decide) (stp_len_nil rfl sl_S_api_Bind rfl) ?_ | refine awps_g0 rfl rfl rfl (by decide) rfl (by decide) (stp_len_vw rfl sl_S_api_Bind rfl) ?_
    refine awps_g0 rfl rfl rfl (by decide) rfl (by decide) (stp_binI rfl rfl rfl rfl) ?_
    refine awps_stp0 rfl rfl (by decide) (stp_pick rfl rfl rfl) ?_
    refine awps_stp0 rfl rfl (by decide) (stp_move (.inl rfl) rfl) ?_
    refine awps_split 31 rfl (fun g31 => ?_) (fun g31 => ?_)
    · try simp only [↓str_beq_t, ↓str_beq_f, decide_eq_true_eq, decide_eq_false_iff_not, Bool.not_eq_true', Bool.not_eq_false', Int.not_lt, Int.not_le, beq_iff_eq, beq_eq_false_iff_ne, bne_iff_ne, bne_eq_false_iff_eq, ne_eq] at g31
      refine awps_g0 rfl rfl rfl (by decide) rfl (by decide) (stp_move (.inl rfl) rfl) ?_
      first | refine awps_g0 rfl rfl rfl (by decide) rfl (by decide) (stp_indexAddr rfl sl_S_api_Bind rfl rfl (by decide) ((show (bdDs [⟨sX, numT 2⟩, ⟨sY, numT 1⟩])[(0 : Int).toNat]? = some (bdD ⟨sX, numT 2⟩) from rfl))) ?_ | refine awps_g0 rfl rfl rfl (by decide) rfl (by decide) (stp_indexAddr_rowd rfl sl_S_api_Bind rfl rfl rfl (by decide) ((show (bdDs [⟨sX, numT 2⟩, ⟨sY, numT 1⟩])[(0 : Int).toNat]? = some (bdD ⟨sX, numT 2⟩) from rfl))) ?_ | refine awps_g0 rfl rfl rfl (by decide) rfl (by decide) (stp_indexAddr_row rfl sl_S_api_Bind rfl rfl rfl (by decide) ((show (bdDs [⟨sX, numT 2⟩, ⟨sY, numT 1⟩])[(0 : Int).toNat]? = some (bdD ⟨sX, numT 2⟩) from rfl)) (by decide)) ?_
      first | refine awps_g0 rfl rfl rfl (by decide) rfl (by decide) (stp_fieldAddr rfl fo_api_Bind_1 rfl) ?_ | refine awps_g0 rfl rfl rfl (by decide) rfl (by decide) (stp_fieldAddr_elp rfl fo_api_Bind_1 rfl) ?_
      first | refine awps_g0 rfl rfl rfl (by decide) rfl (by decide) (stp_fieldAddr rfl fo_api_Term_2 rfl) ?_ | refine awps_g0 rfl rfl rfl (by decide) rfl (by decide) (stp_fieldAddr_elp rfl fo_api_Term_2 rfl) ?_
      first | refine awps_g0 rfl rfl rfl (by decide) rfl (by decide) (stp_load rfl tf_int rfl rfl rfl rfl rfl) ?_ | refine awps_g0 rfl rfl rfl (by decide) rfl (by decide) (stp_load_elp1 rfl tf_int rfl) ?_ | refine awps_g0 rfl rfl rfl (by decide) rfl (by decide) (stp_load_elpn rfl tf_int rfl rfl rfl) ?_
      refine awps_g0 rfl rfl rfl (by decide) rfl (by decide) (stp_binI rfl rfl rfl rfl) ?_
      refine awps_stp0 rfl rfl (by decide) (stp_pick rfl rfl rfl) ?_
      refine awps_stp0 rfl rfl (by decide) (stp_move (.inl rfl) rfl) ?_
      refine awps_split 39 rfl (fun g39 => ?_) (fun g39 => ?_)
      · try simp only [↓str_beq_t, ↓str_beq_f, decide_eq_true_eq, decide_eq_false_iff_not, Bool.not_eq_true', Bool.not_eq_false', Int.not_lt, Int.not_le, beq_iff_eq, beq_eq_false_iff_ne, bne_iff_ne, bne_eq_false_iff_eq, ne_eq] at g39
        refine awps_g0 rfl rfl rfl (by decide) rfl (by decide) (stp_move (.inl rfl) rfl) ?_
        first | refine awps_g0 rfl rfl rfl (by decide) rfl (by decide) (stp_indexAddr rfl sl_S_api_Bind rfl rfl (by decide) ((show (bdDs [⟨sX, numT 2⟩, ⟨sY, numT 1⟩])[(1 : Int).toNat]? = some (bdD ⟨sY, numT 1⟩) from rfl))) ?_ | refine awps_g0 rfl rfl rfl (by decide) rfl (by decide) (stp_indexAddr_rowd rfl sl_S_api_Bind rfl rfl rfl (by decide) ((show (bdDs [⟨sX, numT 2⟩, ⟨sY, numT 1⟩])[(1 : Int).toNat]? = some (bdD ⟨sY, numT 1⟩) from rfl))) ?_ | refine awps_g0 rfl rfl rfl (by decide) rfl (by decide) (stp_indexAddr_row rfl sl_S_api_Bind rfl rfl rfl (by decide) ((show (bdDs [⟨sX, numT 2⟩, ⟨sY, numT 1⟩])[(1 : Int).toNat]? = some (bdD ⟨sY, numT 1⟩) from rfl)) (by decide)) ?_
        first | refine awps_g0 rfl rfl rfl (by decide) rfl (by decide) (stp_fieldAddr rfl fo_api_Bind_1 rfl) ?_ | refine awps_g0 rfl rfl rfl (by decide) rfl (by decide) (stp_fieldAddr_elp rfl fo_api_Bind_1 rfl) ?_
        first | refine awps_g0 rfl rfl rfl (by decide) rfl (by decide) (stp_fieldAddr rfl fo_api_Term_2 rfl) ?_ | refine awps_g0 rfl rfl rfl (by decide) rfl (by decide) (stp_fieldAddr_elp rfl fo_api_Term_2 rfl) ?_
        first | refine awps_g0 rfl rfl rfl (by decide) rfl (by decide) (stp_load rfl tf_int rfl rfl rfl rfl rfl) ?_ | refine awps_g0 rfl rfl rfl (by decide) rfl (by decide) (stp_load_elp1 rfl tf_int rfl) ?_ | refine awps_g0 rfl rfl rfl (by decide) rfl (by decide) (stp_load_elpn rfl tf_int rfl rfl rfl) ?_
        refine awps_g0 rfl rfl rfl (by decide) rfl (by decide) (stp_binI rfl rfl rfl rfl) ?_
        refine awps_stp0 rfl rfl (by decide) (stp_pick rfl rfl rfl) ?_
        refine awps_stp0 rfl rfl (by decide) (stp_move (.inr rfl) rfl) ?_
        refine awps_nil ?_
        refine thenQ_nil ?_
        refine awp_ret ?_
        -- leaf g26Tg31Tg39T
        refine ret0 (noL hL) (.inl rfl) (resAs_tmp rfl (resAs_nil)) ?_ ?_
        · rfl
        exact ⟨rfl, rfl⟩
      try simp only [↓str_beq_t, ↓str_beq_f, decide_eq_true_eq, decide_eq_false_iff_not, Bool.not_eq_true', Bool.not_eq_false', Int.not_lt, Int.not_le, beq_iff_eq, beq_eq_false_iff_ne, bne_iff_ne, bne_eq_false_iff_eq, ne_eq] at g39
      exact absurd rfl g39
    try simp only [↓str_beq_t, ↓str_beq_f, decide_eq_true_eq, decide_eq_false_iff_not, Bool.not_eq_true', Bool.not_eq_false', Int.not_lt, Int.not_le, beq_iff_eq, beq_eq_false_iff_ne, bne_iff_ne, bne_eq_false_iff_eq, ne_eq] at g31
    exact absurd rfl g31
  try simp only [↓str_beq_t, ↓str_beq_f, decide_eq_true_eq, decide_eq_false_iff_not, Bool.not_eq_true', Bool.not_eq_false', Int.not_lt, Int.not_le, beq_iff_eq, beq_eq_false_iff_ne, bne_iff_ne, bne_eq_false_iff_eq, ne_eq] at g26
  exact absurd trivial g26
end Go.Proofs.Ytdecgkhdbfgldaa

set_option linter.unusedVariables false
set_option linter.unusedSimpArgs false
set_option maxRecDepth 8000
namespace Go.Proofs.Ytdecgkhdbfgldaa
open Go
theorem uni0 (a b : Tm) (R : List Bd × Int) (ha : a.wf) (hb : b.wf) (hR : uniP [] a b R) : PF 27 [.imm (.slice none 0 0), tmA false a, tmA false b] (.tup [bdA R.1, iv R.2]) :=
  AC_le (.cons .nil (.cons .refl (.cons .refl .nil))) (Unify_ok [] nil_bwf a b ha hb R hR)
theorem name30_ok (s : ByteArray) : PF 28 [sv s, .imm (.slice none 0 0)] (.agg (lift false (tmD (nmT s [])))) := AC_le (.cons .refl (.cons .nil .nil)) (name3_ok s [] (by decide))
abbrev sC : ByteArray := ⟨#[99]⟩
theorem oX : (varT sX).wf := varT_w _ (by decide)
theorem oY : (varT sY).wf := varT_w _ (by decide)
theorem oC : (nmT sC []).wf := nmT_w _ _ (by decide) (by decide) (fun t ht => by cases ht)
end Go.Proofs.Ytdecgkhdbfgldaa

set_option linter.unusedVariables false
set_option linter.unusedSimpArgs false
set_option maxRecDepth 8000
namespace Go.Proofs.Ytdecgkhdbfgldaa
open Go
abbrev sS : ByteArray := ⟨#[115]⟩
def deep : Nat → Tm
  | 0 => nmT sC []
  | k + 1 => nmT sS [deep k]
theorem deep_w : ∀ k, (deep k).wf
  | 0 => oC
  | k + 1 => nmT_w _ _ (by decide) (by simp) (all1 (deep_w k))
def dpL : List Bd := [⟨sX, deep 4⟩]
def dpM : List Bd := [⟨sX, deep 4⟩, ⟨sY, deep 4⟩]
theorem dpL_w : ∀ b ∈ dpL, b.wf := fun b hb => by
  simp only [dpL, List.mem_cons, List.not_mem_nil, or_false] at hb
  subst hb; exact ⟨by decide, deep_w 4⟩
theorem du1 : uniP [] (varT sX) (deep 4) (dpL, 0) := .inl ⟨by kernel_rfl, by kernel_rfl, by kernel_rfl, 20, by kernel_rfl⟩
theorem du2 : uniP dpL (nmT sS [varT sX]) (varT sY) ([], 2) := .inl ⟨by kernel_rfl, by kernel_rfl, by kernel_rfl, 20, by kernel_rfl⟩
theorem du3 : uniP dpL (varT sX) (varT sY) (dpM, 0) := .inl ⟨by kernel_rfl, by kernel_rfl, by kernel_rfl, 20, by kernel_rfl⟩
theorem variable3f_ok (s : ByteArray) : PF 26 [sv s] (.agg (lift false (tmD (varT s)))) := AC_leR (var_le false s) (variable3_raw s)
theorem name31_ok (s : ByteArray) (t : Tm) : PF 28 [sv s, .dat false 4 [tmD t]] (.agg (lift false (tmD (nmT s [t])))) := by
  have h := name3_ok s [t] (by simp)
  rw [tmDs_map] at h; exact h
theorem UnifyDeep_ok (p : Ask2) (hp : p.wf) : PF 6 [.agg (lift false (a2D p))] (bv true) := by
  have hlT := tmDs_length p.T
  have k1 := uni0 _ _ _ oX (deep_w 4) du1
  have k2 := Unify_ok _ dpL_w _ _ (nmT_w sS [varT sX] (by decide) (by decide) (all1 oX)) oY _ du2
  have k3 := Unify_ok _ dpL_w _ _ oX oY _ du3
  have k4 := EqTerm_ok 5 (deep 4) (deep 4) (may_dle (show mayT (deep 4) = true by kernel_rfl)) (deep_w 4) (deep_w 4)
  refine AC_intro Try.func6 rfl Try.ntmps6 (Nat.le_of_ble_eq_true rfl) fun c hL hQ => ?_
  refine awp_seq ?_
  refine awp_region ?_
  refine awps_stp1 rfl rfl (by decide) (stp_box 1 rfl rfl rfl) rfl ?_
  refine awps_stp0 rfl rfl (by decide) (stp_move (.inr rfl) rfl) ?_
  refine awps_nil ?_
  refine thenQ_nil ?_
  refine awp_seq ?_
  refine awp_region ?_
  refine awps_call (avs := [_, _]) false rfl rfl rfl (by decide) en_almagestlaw3_name rfl rfl (name30_ok sC) rfl rfl ?_
  refine awps_stp1 rfl rfl (by decide) (stp_alloc 3 rfl zv_api_Term rfl) rfl ?_
  refine awps_store rfl rfl rfl tf_api_Term rfl rfl rfl rfl rfl rfl rfl rfl rfl ?_
  refine awps_nil ?_
  refine thenQ_nil ?_
  refine awp_seq ?_
  refine awp_seq ?_
  refine awp_region ?_
  refine awps_stp0 rfl rfl (by decide) (stp_move (.inr rfl) rfl) ?_
  refine awps_nil ?_
  refine thenQ_nil ?_
  refine awp_block ?_
  refine awp_while (4) (fun _ => True) (fun k => ⟨[(1, .ptr 1 0), (3, .ptr 3 0), (4, iv (k + 1 : Int))], [(1, .box (lift false (a2D p))), (3, .box (lift false (tmD (deep k))))]⟩) (trivial) ?_ (fun k hk hp => ?_)
  · exact sub_re (SubT.cons (lk_eq rfl (by first | rfl | simp)) (SubT.cons (lk_eq rfl (by first | rfl | simp)) (SubT.cons (lk_eq rfl (by first | rfl | simp)) (SubT.nil)))) (SubO.cons (ok_eq rfl (by rfl)) (SubO.cons (ok_eq rfl (by rfl)) (SubO.nil))) rfl rfl (noL' (noL hL) _)
  refine awp_seq ?_
  refine awp_seq ?_
  refine awp_region ?_
  refine awps_stp0 rfl rfl (by decide) (stp_move (.inl rfl) rfl) ?_
  refine awps_stp0 rfl rfl (by decide) (stp_binI rfl rfl rfl rfl) ?_
  refine awps_nil ?_
  refine thenQ_nil ?_
  refine awp_cond rfl (fun c0 => ?_) (fun c0 => ?_)
  · try simp only [↓str_beq_t, ↓str_beq_f, decide_eq_true_eq, decide_eq_false_iff_not, Bool.not_eq_true', Bool.not_eq_false', Int.not_lt, Int.not_le, beq_iff_eq, beq_eq_false_iff_ne, bne_iff_ne, bne_eq_false_iff_eq, ne_eq] at c0
    refine awp_skip ?_
    refine thenQ_nil ?_
    refine awp_seq ?_
    refine awp_block ?_
    refine awp_region ?_
    first | refine awps_stp0 rfl rfl (by decide) (stp_load_all rfl tf_api_Term rfl rfl rfl rfl) ?_ | refine awps_stp0 rfl rfl (by decide) (stp_load rfl tf_api_Term rfl rfl rfl rfl rfl) ?_ | refine awps_stp0 rfl rfl (by decide) (stp_load_elpa rfl tf_api_Term rfl rfl) ?_ | refine awps_stp0 rfl rfl (by decide) (stp_load_elpn rfl tf_api_Term rfl rfl rfl) ?_
    refine awps_stp0 rfl rfl (by decide) (stp_buildSliceD false rfl sl_S_api_Term zv_api_Term rfl rfl (by decide) (by decide) (by decide) rfl rfl rfl rfl) ?_
    refine awps_call (avs := [_, _]) false rfl rfl rfl (by decide) en_almagestlaw3_name rfl rfl (name31_ok sS (deep k)) rfl rfl ?_
    refine awps_store rfl rfl rfl tf_api_Term rfl rfl rfl rfl rfl rfl rfl rfl rfl ?_
    refine awps_nil ?_
    refine inQ_nil ?_
    refine thenQ_nil ?_
    refine awp_region ?_
    refine awps_stp0 rfl rfl (by decide) (stp_move (.inl rfl) rfl) ?_
    refine awps_stp0 rfl rfl (by decide) (stp_add rfl rfl rfl (by omega)) ?_
    refine awps_stp0 rfl rfl (by decide) (stp_move (.inr rfl) rfl) ?_
    refine awps_nil ?_
    refine thenQ_nil ?_
    refine ⟨?_, ?_, ?_⟩
    · skip
      omega
    · skip
      trivial
    exact sub_re (SubT.cons (lk_eq rfl (by first | rfl | simp)) (SubT.cons (lk_eq rfl (by first | rfl | simp)) (SubT.cons (lk_eq rfl (by first | rfl | simp)) (SubT.nil)))) (SubO.cons (ok_eq rfl (by rfl)) (SubO.cons (ok_eq rfl (by rfl)) (SubO.nil))) rfl rfl (noL' (noL hL) _)
  try simp only [↓str_beq_t, ↓str_beq_f, decide_eq_true_eq, decide_eq_false_iff_not, Bool.not_eq_true', Bool.not_eq_false', Int.not_lt, Int.not_le, beq_iff_eq, beq_eq_false_iff_ne, bne_iff_ne, bne_eq_false_iff_eq, ne_eq] at c0
  have hk4 : k = 4 := by omega
  subst hk4
  refine awp_exit ?_
  refine thenQ_exit (thenQ_exit (inQ_hit ?_))
  refine thenQ_nil ?_
  refine awp_seq ?_
  refine awp_drawG 7 mixed rfl rfl rfl rfl ?_
  refine MGo_c0 rfl (by decide) (.run rfl (stp_call (avs := [_]) false rfl en_almagestlaw3_variable rfl rfl (variable3f_ok sX) (fun _ => rfl) rfl)) ?_
  first | refine MGo_c0 rfl (by decide) (.run rfl (stp_load_all rfl tf_api_Term rfl rfl rfl rfl)) ?_ | refine MGo_c0 rfl (by decide) (.run rfl (stp_load rfl tf_api_Term rfl rfl rfl rfl rfl)) ?_ | refine MGo_c0 rfl (by decide) (.run rfl (stp_load_elpa rfl tf_api_Term rfl rfl)) ?_ | refine MGo_c0 rfl (by decide) (.run rfl (stp_load_elpn rfl tf_api_Term rfl rfl rfl)) ?_
  refine MGo_c0 rfl (by decide) (.run rfl (stp_call (avs := [_, _, _]) false rfl en_unify_Unify rfl rfl (k1) (fun _ => rfl) rfl)) ?_
  refine MGo_c0 rfl (by decide) (.run rfl (stp_move (.inl rfl) rfl)) ?_
  refine MGo_c0 rfl (by decide) (.run rfl (stp_extract rfl rfl rfl)) ?_
  refine MGo_c0 rfl (by decide) (.run rfl (stp_extract rfl rfl rfl)) ?_
  refine MGo_c0 rfl (by decide) (.run rfl (stp_move (.inr rfl) rfl)) ?_
  refine MGo_nil ⟨rfl, rfl, ?_⟩
  refine awps_stp0 rfl rfl (by decide) (stp_move (.inr rfl) rfl) ?_
  refine awps_nil ?_
  refine thenQ_nil ?_
  refine awp_seq ?_
  refine awp_seq ?_
  refine awp_region ?_
  refine awps_stp0 rfl rfl (by decide) (stp_move (.inl rfl) rfl) ?_
  refine awps_call (avs := [_]) true rfl rfl rfl (by decide) en_almagestlaw3_num rfl rfl (num3_ok _) rfl rfl ?_
  refine awps_stp0 rfl rfl (by decide) (stp_binI rfl rfl rfl rfl) ?_
  refine awps_stp0 rfl rfl (by decide) (stp_move (.inl rfl) rfl) ?_
  refine awps_split 28 rfl (fun g28 => ?_) (fun g28 => ?_)
  · try simp only [↓str_beq_t, ↓str_beq_f, decide_eq_true_eq, decide_eq_false_iff_not, Bool.not_eq_true', Bool.not_eq_false', Int.not_lt, Int.not_le, beq_iff_eq, beq_eq_false_iff_ne, bne_iff_ne, bne_eq_false_iff_eq, ne_eq] at g28
    refine awps_gs rfl rfl rfl rfl (by decide) rfl (by decide) ?_
    refine awps_gs rfl rfl rfl rfl (by decide) rfl (by decide) ?_
    refine awps_gs rfl rfl rfl rfl (by decide) rfl (by decide) ?_
    refine awps_stp0 rfl rfl (by decide) (stp_pick rfl rfl rfl) ?_
    refine awps_nil ?_
    refine thenQ_nil ?_
    refine awp_condT rfl ?_
    refine awp_seq ?_
    refine awp_region ?_
    refine awps_stp0 rfl rfl (by decide) (stp_move (.inr rfl) rfl) ?_
    refine awps_nil ?_
    refine thenQ_nil ?_
    refine awp_ret ?_
    refine thenQ_ret (?_)
    -- leaf 0Fg28T
    refine ret0 (noL hL) (.inl rfl) (resAs_tmp rfl (resAs_nil)) ?_ ?_
    · rfl
    first
    | exact absurd trivial g28
    | exact absurd rfl c1
    | exact ⟨rfl, rfl⟩
  try simp only [↓str_beq_t, ↓str_beq_f, decide_eq_true_eq, decide_eq_false_iff_not, Bool.not_eq_true', Bool.not_eq_false', Int.not_lt, Int.not_le, beq_iff_eq, beq_eq_false_iff_ne, bne_iff_ne, bne_eq_false_iff_eq, ne_eq] at g28
  refine awps_g0 rfl rfl rfl (by decide) rfl (by decide) (stp_move (.inl rfl) rfl) ?_
  first | refine awps_g0 rfl rfl rfl (by decide) rfl (by decide) (stp_len_dat rfl sl_S_api_Bind rfl) ?_ | refine awps_g0 rfl rfl rfl (by decide) rfl (by decide) (stp_len_rowd rfl sl_S_api_Bind rfl rfl) ?_ | refine awps_g0 rfl rfl rfl (by decide) rfl (by decide) (stp_len_nil rfl sl_S_api_Bind rfl) ?_ | refine awps_g0 rfl rfl rfl (by decide) rfl (by decide) (stp_len_vw rfl sl_S_api_Bind rfl) ?_
  refine awps_g0 rfl rfl rfl (by decide) rfl (by decide) (stp_binI rfl rfl rfl rfl) ?_
  refine awps_stp0 rfl rfl (by decide) (stp_pick rfl rfl rfl) ?_
  refine awps_nil ?_
  refine thenQ_nil ?_
  refine awp_cond rfl (fun c1 => ?_) (fun c1 => ?_)
  · try simp only [↓str_beq_t, ↓str_beq_f, decide_eq_true_eq, decide_eq_false_iff_not, Bool.not_eq_true', Bool.not_eq_false', Int.not_lt, Int.not_le, beq_iff_eq, beq_eq_false_iff_ne, bne_iff_ne, bne_eq_false_iff_eq, ne_eq] at c1
    refine awp_seq ?_
    refine awp_region ?_
    refine awps_stp0 rfl rfl (by decide) (stp_move (.inr rfl) rfl) ?_
    refine awps_nil ?_
    refine thenQ_nil ?_
    refine awp_ret ?_
    refine thenQ_ret (?_)
    -- leaf 0Fg28F1T
    refine ret0 (noL hL) (.inl rfl) (resAs_tmp rfl (resAs_nil)) ?_ ?_
    · rfl
    first
    | exact absurd trivial g28
    | exact absurd rfl c1
    | exact ⟨rfl, rfl⟩
  try simp only [↓str_beq_t, ↓str_beq_f, decide_eq_true_eq, decide_eq_false_iff_not, Bool.not_eq_true', Bool.not_eq_false', Int.not_lt, Int.not_le, beq_iff_eq, beq_eq_false_iff_ne, bne_iff_ne, bne_eq_false_iff_eq, ne_eq] at c1
  refine awp_skip ?_
  refine thenQ_nil ?_
  refine awp_seq ?_
  refine awp_region ?_
  refine awps_stp0 rfl rfl (by decide) (stp_move (.inl rfl) rfl) ?_
  refine awps_call (avs := [_]) false rfl rfl rfl (by decide) en_almagestlaw3_variable rfl rfl (variable3f_ok sX) rfl rfl ?_
  refine awps_stp0 rfl rfl (by decide) (stp_buildSliceD false rfl sl_S_api_Term zv_api_Term rfl rfl (by decide) (by decide) (by decide) rfl rfl rfl rfl) ?_
  refine awps_call (avs := [_, _]) false rfl rfl rfl (by decide) en_almagestlaw3_name rfl rfl (name3_ok sS [varT sX] (by decide)) rfl rfl ?_
  refine awps_call (avs := [_]) false rfl rfl rfl (by decide) en_almagestlaw3_variable rfl rfl (variable3f_ok sY) rfl rfl ?_
  refine awps_call (avs := [_, _, _]) false rfl rfl rfl (by decide) en_unify_Unify rfl rfl (k2) rfl rfl ?_
  refine awps_stp0 rfl rfl (by decide) (stp_move (.inl rfl) rfl) ?_
  refine awps_stp0 rfl rfl (by decide) (stp_extract rfl rfl rfl) ?_
  refine awps_stp0 rfl rfl (by decide) (stp_extract rfl rfl rfl) ?_
  refine awps_stp0 rfl rfl (by decide) (stp_move (.inr rfl) rfl) ?_
  refine awps_stp0 rfl rfl (by decide) (stp_move (.inr rfl) rfl) ?_
  refine awps_nil ?_
  refine thenQ_nil ?_
  refine awp_seq ?_
  refine awp_region ?_
  refine awps_stp0 rfl rfl (by decide) (stp_move (.inl rfl) rfl) ?_
  refine awps_call (avs := [_]) false rfl rfl rfl (by decide) en_almagestlaw3_variable rfl rfl (variable3f_ok sX) rfl rfl ?_
  refine awps_call (avs := [_]) false rfl rfl rfl (by decide) en_almagestlaw3_variable rfl rfl (variable3f_ok sY) rfl rfl ?_
  refine awps_call (avs := [_, _, _]) false rfl rfl rfl (by decide) en_unify_Unify rfl rfl (k3) rfl rfl ?_
  refine awps_stp0 rfl rfl (by decide) (stp_move (.inl rfl) rfl) ?_
  refine awps_stp0 rfl rfl (by decide) (stp_extract rfl rfl rfl) ?_
  refine awps_stp0 rfl rfl (by decide) (stp_extract rfl rfl rfl) ?_
  refine awps_stp0 rfl rfl (by decide) (stp_move (.inr rfl) rfl) ?_
  refine awps_stp0 rfl rfl (by decide) (stp_move (.inr rfl) rfl) ?_
  refine awps_nil ?_
  refine thenQ_nil ?_
  refine awp_seq ?_
  rcases Bool.eq_false_or_eq_true (true) with l51 | l51
  · have m51 := l51
    try simp only [↓str_beq_t, ↓str_beq_f, decide_eq_true_eq, decide_eq_false_iff_not, Bool.not_eq_true', Bool.not_eq_false', Int.not_lt, Int.not_le, beq_iff_eq, beq_eq_false_iff_ne, bne_iff_ne, bne_eq_false_iff_eq, ne_eq] at m51
    rcases Bool.eq_false_or_eq_true (true) with l55 | l55
    · have m55 := l55
      try simp only [↓str_beq_t, ↓str_beq_f, decide_eq_true_eq, decide_eq_false_iff_not, Bool.not_eq_true', Bool.not_eq_false', Int.not_lt, Int.not_le, beq_iff_eq, beq_eq_false_iff_ne, bne_iff_ne, bne_eq_false_iff_eq, ne_eq] at m55
      rcases Bool.eq_false_or_eq_true (true) with l60 | l60
      · have m60 := l60
        try simp only [↓str_beq_t, ↓str_beq_f, decide_eq_true_eq, decide_eq_false_iff_not, Bool.not_eq_true', Bool.not_eq_false', Int.not_lt, Int.not_le, beq_iff_eq, beq_eq_false_iff_ne, bne_iff_ne, bne_eq_false_iff_eq, ne_eq] at m60
        rcases Bool.eq_false_or_eq_true (eqT 5 (deep 4) (deep 4)) with l68 | l68
        · have m68 := l68
          try simp only [↓str_beq_t, ↓str_beq_f, decide_eq_true_eq, decide_eq_false_iff_not, Bool.not_eq_true', Bool.not_eq_false', Int.not_lt, Int.not_le, beq_iff_eq, beq_eq_false_iff_ne, bne_iff_ne, bne_eq_false_iff_eq, ne_eq] at m68
          rcases Bool.eq_false_or_eq_true (true) with l74 | l74
          · have m74 := l74
            try simp only [↓str_beq_t, ↓str_beq_f, decide_eq_true_eq, decide_eq_false_iff_not, Bool.not_eq_true', Bool.not_eq_false', Int.not_lt, Int.not_le, beq_iff_eq, beq_eq_false_iff_ne, bne_iff_ne, bne_eq_false_iff_eq, ne_eq] at m74
            refine awp_drawG 19 mixed rfl rfl rfl rfl ?_
            refine MGo_c0 rfl (by decide) (.run rfl (stp_move (.inl rfl) rfl)) ?_
            refine MGo_c0 rfl (by decide) (.run rfl (stp_call (avs := [_]) true rfl en_almagestlaw3_num rfl rfl (num3_ok _) (fun _ => rfl) rfl)) ?_
            refine MGo_c0 rfl (by decide) (.run rfl (stp_binI (r := .bool true) rfl rfl rfl (congrArg (fun b => some (Value.bool b)) l51))) ?_
            refine MGo_c0 rfl (by decide) (.run rfl (stp_move (.inl rfl) rfl)) ?_
            refine MGo_c0 rfl (by decide) (.want rfl rfl rfl (by decide) (stp_move (.inl rfl) rfl)) ?_
            refine MGo_c0 rfl (by decide) (.want rfl rfl rfl (by decide) (stp_call (avs := [_]) true rfl en_almagestlaw3_num rfl rfl (num3_ok _) (fun _ => rfl) rfl)) ?_
            refine MGo_c0 rfl (by decide) (.want rfl rfl rfl (by decide) (stp_binI (r := .bool true) rfl rfl rfl (congrArg (fun b => some (Value.bool b)) l55))) ?_
            refine MGo_c0 rfl (by decide) (.run rfl (stp_pick rfl rfl rfl)) ?_
            refine MGo_c0 rfl (by decide) (.run rfl (stp_move (.inl rfl) rfl)) ?_
            refine MGo_c0 rfl (by decide) (.want rfl rfl rfl (by decide) (stp_move (.inl rfl) rfl)) ?_
            first | refine MGo_c0 rfl (by decide) (.want rfl rfl rfl (by decide) (stp_len_dat rfl sl_S_api_Bind rfl)) ?_ | refine MGo_c0 rfl (by decide) (.want rfl rfl rfl (by decide) (stp_len_rowd rfl sl_S_api_Bind rfl rfl)) ?_ | refine MGo_c0 rfl (by decide) (.want rfl rfl rfl (by decide) (stp_len_nil rfl sl_S_api_Bind rfl)) ?_ | refine MGo_c0 rfl (by decide) (.want rfl rfl rfl (by decide) (stp_len_vw rfl sl_S_api_Bind rfl)) ?_
            refine MGo_c0 rfl (by decide) (.want rfl rfl rfl (by decide) (stp_binI (r := .bool true) rfl rfl rfl (congrArg (fun b => some (Value.bool b)) l60))) ?_
            refine MGo_c0 rfl (by decide) (.run rfl (stp_pick rfl rfl rfl)) ?_
            refine MGo_c0 rfl (by decide) (.run rfl (stp_move (.inl rfl) rfl)) ?_
            refine MGo_c0 rfl (by decide) (.want rfl rfl rfl (by decide) (stp_move (.inl rfl) rfl)) ?_
            first | refine MGo_c0 rfl (by decide) (.want rfl rfl rfl (by decide) (stp_indexAddr rfl sl_S_api_Bind rfl rfl (by decide) ((show (bdDs dpM)[(1 : Int).toNat]? = some (bdD ⟨sY, deep 4⟩) from rfl)))) ?_ | refine MGo_c0 rfl (by decide) (.want rfl rfl rfl (by decide) (stp_indexAddr_rowd rfl sl_S_api_Bind rfl rfl rfl (by decide) ((show (bdDs dpM)[(1 : Int).toNat]? = some (bdD ⟨sY, deep 4⟩) from rfl)))) ?_ | refine MGo_c0 rfl (by decide) (.want rfl rfl rfl (by decide) (stp_indexAddr_row rfl sl_S_api_Bind rfl rfl rfl (by decide) ((show (bdDs dpM)[(1 : Int).toNat]? = some (bdD ⟨sY, deep 4⟩) from rfl)) (by decide))) ?_
            first | refine MGo_c0 rfl (by decide) (.want rfl rfl rfl (by decide) (stp_fieldAddr rfl fo_api_Bind_1 rfl)) ?_ | refine MGo_c0 rfl (by decide) (.want rfl rfl rfl (by decide) (stp_fieldAddr_elp rfl fo_api_Bind_1 rfl)) ?_
            first | refine MGo_c0 rfl (by decide) (.want rfl rfl rfl (by decide) (stp_load_all rfl tf_api_Term rfl rfl rfl rfl)) ?_ | refine MGo_c0 rfl (by decide) (.want rfl rfl rfl (by decide) (stp_load rfl tf_api_Term rfl rfl rfl rfl rfl)) ?_ | refine MGo_c0 rfl (by decide) (.want rfl rfl rfl (by decide) (stp_load_elpa rfl tf_api_Term rfl rfl)) ?_ | refine MGo_c0 rfl (by decide) (.want rfl rfl rfl (by decide) (stp_load_elpn rfl tf_api_Term rfl rfl rfl)) ?_
            first | refine MGo_c0 rfl (by decide) (.want rfl rfl rfl (by decide) (stp_load_all rfl tf_api_Term rfl rfl rfl rfl)) ?_ | refine MGo_c0 rfl (by decide) (.want rfl rfl rfl (by decide) (stp_load rfl tf_api_Term rfl rfl rfl rfl rfl)) ?_ | refine MGo_c0 rfl (by decide) (.want rfl rfl rfl (by decide) (stp_load_elpa rfl tf_api_Term rfl rfl)) ?_ | refine MGo_c0 rfl (by decide) (.want rfl rfl rfl (by decide) (stp_load_elpn rfl tf_api_Term rfl rfl rfl)) ?_
            refine MGo_nil ⟨rfl, rfl, ?_⟩
            refine awps_g0 rfl rfl rfl (by decide) rfl (by decide) (stp_call (avs := [_, _]) true rfl en_almagestref0_EqTerm rfl rfl (by have hh := k4; rw [l68] at hh; exact hh) (fun _ => rfl) rfl) ?_
            refine awps_stp0 rfl rfl (by decide) (stp_pick rfl rfl rfl) ?_
            refine awps_stp0 rfl rfl (by decide) (stp_move (.inl rfl) rfl) ?_
            first | refine awps_g0 rfl rfl rfl (by decide) rfl (by decide) (stp_fieldAddr rfl fo_almagestlaw2_Ask_1 rfl) ?_ | refine awps_g0 rfl rfl rfl (by decide) rfl (by decide) (stp_fieldAddr_elp rfl fo_almagestlaw2_Ask_1 rfl) ?_
            first | refine awps_g0 rfl rfl rfl (by decide) rfl (by decide) (stp_load rfl tf_S_api_Term rfl rfl rfl rfl rfl) ?_ | refine awps_g0 rfl rfl rfl (by decide) rfl (by decide) (stp_load_elp1 rfl tf_S_api_Term rfl) ?_ | refine awps_g0 rfl rfl rfl (by decide) rfl (by decide) (stp_load_elpn rfl tf_S_api_Term rfl rfl rfl) ?_
            first | refine awps_g0 rfl rfl rfl (by decide) rfl (by decide) (stp_len_dat rfl sl_S_api_Term rfl) ?_ | refine awps_g0 rfl rfl rfl (by decide) rfl (by decide) (stp_len_rowd rfl sl_S_api_Term rfl rfl) ?_ | refine awps_g0 rfl rfl rfl (by decide) rfl (by decide) (stp_len_nil rfl sl_S_api_Term rfl) ?_ | refine awps_g0 rfl rfl rfl (by decide) rfl (by decide) (stp_len_vw rfl sl_S_api_Term rfl) ?_
            refine awps_g0 rfl rfl rfl (by decide) rfl (by decide) (stp_binI (r := .bool true) rfl rfl rfl (congrArg (fun b => some (Value.bool b)) l74)) ?_
            refine awps_stp0 rfl rfl (by decide) (stp_pick rfl rfl rfl) ?_
            refine awps_stp0 rfl rfl (by decide) (stp_move (.inl rfl) rfl) ?_
            refine awps_g0 rfl rfl rfl (by decide) rfl (by decide) (stp_call (avs := []) true rfl en_almagestlaw3_wakes rfl rfl (wakes3_ok) (fun _ => rfl) rfl) ?_
            refine awps_stp0 rfl rfl (by decide) (stp_pick rfl rfl rfl) ?_
            refine awps_stp0 rfl rfl (by decide) (stp_move (.inr rfl) rfl) ?_
            refine awps_nil ?_
            refine thenQ_nil ?_
            refine awp_ret ?_
            -- leaf 0Fg28F1Fl51Tl55Tl60Tl68Tl74T
            refine ret0 (noL hL) (.inl rfl) (resAs_tmp rfl (resAs_nil)) ?_ ?_
            · rfl
            first
            | exact absurd trivial g28
            | exact absurd rfl c1
            | exact ⟨rfl, rfl⟩
          have m74 := l74
          try simp only [↓str_beq_t, ↓str_beq_f, decide_eq_true_eq, decide_eq_false_iff_not, Bool.not_eq_true', Bool.not_eq_false', Int.not_lt, Int.not_le, beq_iff_eq, beq_eq_false_iff_ne, bne_iff_ne, bne_eq_false_iff_eq, ne_eq] at m74
          cases l74
        have m68 := l68
        try simp only [↓str_beq_t, ↓str_beq_f, decide_eq_true_eq, decide_eq_false_iff_not, Bool.not_eq_true', Bool.not_eq_false', Int.not_lt, Int.not_le, beq_iff_eq, beq_eq_false_iff_ne, bne_iff_ne, bne_eq_false_iff_eq, ne_eq] at m68
        rw [show eqT 5 (deep 4) (deep 4) = true by kernel_rfl] at l68; cases l68
      have m60 := l60
      try simp only [↓str_beq_t, ↓str_beq_f, decide_eq_true_eq, decide_eq_false_iff_not, Bool.not_eq_true', Bool.not_eq_false', Int.not_lt, Int.not_le, beq_iff_eq, beq_eq_false_iff_ne, bne_iff_ne, bne_eq_false_iff_eq, ne_eq] at m60
      cases l60
    have m55 := l55
    try simp only [↓str_beq_t, ↓str_beq_f, decide_eq_true_eq, decide_eq_false_iff_not, Bool.not_eq_true', Bool.not_eq_false', Int.not_lt, Int.not_le, beq_iff_eq, beq_eq_false_iff_ne, bne_iff_ne, bne_eq_false_iff_eq, ne_eq] at m55
    cases l55
  have m51 := l51
  try simp only [↓str_beq_t, ↓str_beq_f, decide_eq_true_eq, decide_eq_false_iff_not, Bool.not_eq_true', Bool.not_eq_false', Int.not_lt, Int.not_le, beq_iff_eq, beq_eq_false_iff_ne, bne_iff_ne, bne_eq_false_iff_eq, ne_eq] at m51
  cases l51
end Go.Proofs.Ytdecgkhdbfgldaa
